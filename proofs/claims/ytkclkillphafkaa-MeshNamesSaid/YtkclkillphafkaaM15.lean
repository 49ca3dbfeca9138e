/- MeshNames. -/
import Derived.Test.YtkclkillphafkaaM12
import Derived.Test.YtkclkillphafkaaM6
import Derived.Deep.CutRange
import Derived.Deep.DeepCutAuto
import Derived.BigRegion
namespace Go.Proofs.Ytkclkillphafkaa
open Go.RowKit
set_option linter.unusedVariables false

theorem v51_info : (Try.prog.info? 51).map (fun i => (i.zero, i.size, i.bytes)) = some (some (.agg #[.int .i64 0, .int .i64 0, .int .i64 0]), 3, 24) := by kernel_rfl
theorem v52_info : (Try.prog.info? 52).map (fun i => (i.zero, i.size, i.bytes)) = some (some (.agg #[.int .i64 0, .int .i64 0]), 2, 16) := by kernel_rfl
set_option maxHeartbeats 1000000 in
theorem check15_long (A1 : Option Addr) (n1 c1 : Nat) (w : World) (h : 64 < n1) : Calls Try.prog 15 #[.agg #[.slice A1 n1 c1, .slice none 0 0, .slice none 0 0]] w fun e w' => e = .returned (.int .i64 4) ∧ Below w.heap.size w w' := by
  have g0 : decide ((64 : Int) < (n1 : Int)) = true := decide_eq_true (by omega)
  go_enter Try.func15, Try.ntmps15
  go_wp2
  go_ret
  exact ⟨rfl, by repeat' (first | exact Below.refl _ _ | assumption | apply Below.drew | refine Below.setCell ?_ (by first | omega | (simp; done) | (simp; omega)) _ | refine Below.alloc ?_ (by first | omega | (simp; done) | (simp; omega)) _)⟩
def D0 (p : Nat) : Nat → PrimD := fun _ => ⟨2, some ⟨p, 0, none⟩, 3, 3, fun i => [0, 1, 3].getD i 0⟩
theorem three_bad (p : Nat) : chkM 3 3 (fun _ _ => 0) (fun _ _ => 0) (D0 p) 1 = 40 :=
  chkM_bad (by omega) (fun h => by
    have := (h.2.2.2.1 0 (by decide)).2 2 (show (2 : Nat) < 3 by decide)
    exact absurd (show (3 : Int) < ((3 : Nat) : Int) from this.2) (by decide))
theorem zero_ok (p : Nat) : chkM 0 0 (fun _ _ => 0) (fun _ _ => 0) (D0 p) 0 = 0 :=
  chkM_ok (by omega) ⟨rfl, fun i hi => absurd hi (by omega), fun i hi => absurd hi (by omega), fun i hi => absurd hi (by omega), Nat.zero_le 64⟩
theorem check_zero (W : World) : Calls Try.prog 15 #[.agg #[.slice none 0 0, .slice none 0 0, .slice none 0 0]] W fun e w' => e = .returned (.int .i64 0) ∧ Below W.heap.size W w' := by
  rw [← zero_ok 0]
  exact check15_any none none none 0 0 0 0 0 0 (fun _ _ => 0) (fun _ _ => 0) (D0 0) W (Row.zero _ _ _ _) (Row.zero _ _ _ _) (fun h => absurd h (by omega)) (fun _ => (by decide : (0 : Int) ≤ 2))
theorem check_three (W : World) (a b p q : Nat) (ha : ∀ j, j < 9 → W.cell? ⟨a, j, none⟩ = some (.int .i64 0)) (hb : ∀ j, j < 6 → W.cell? ⟨b, j, none⟩ = some (.int .i64 0))
    (hp : ∀ j, j < 3 → W.cell? ⟨p, j, none⟩ = some (.int .i64 ([0, 1, 3].getD j 0))) (hq0 : W.cell? ⟨q, 0, none⟩ = some (.int .u8 2)) (hq1 : W.cell? ⟨q, 1, none⟩ = some (.slice (some ⟨p, 0, none⟩) 3 3)) :
    Calls Try.prog 15 #[.agg #[.slice (some ⟨a, 0, none⟩) 3 3, .slice (some ⟨b, 0, none⟩) 3 3, .slice (some ⟨q, 0, none⟩) 1 1]] W fun e w' => e = .returned (.int .i64 40) ∧ Below W.heap.size W w' := by
  rw [← three_bad p]
  refine check15_any _ _ _ 3 3 1 3 3 1 (fun _ _ => 0) (fun _ _ => 0) (D0 p) W ?_ ?_ ?_ (fun _ => (by decide : (0 : Int) ≤ 2))
  · intro _
    refine ⟨a, 0, rfl, World.block_lt_of_cell? W _ (ha 0 (by omega)), fun i hi j hj => ?_⟩
    dsimp only
    exact ha _ (by omega)
  · intro _
    refine ⟨b, 0, rfl, World.block_lt_of_cell? W _ (hb 0 (by omega)), fun i hi j hj => ?_⟩
    dsimp only
    exact hb _ (by omega)
  · intro _
    refine ⟨q, 0, rfl, World.block_lt_of_cell? W _ hq0, fun i hi => ?_, fun i hi _ => ⟨p, 0, rfl, World.block_lt_of_cell? W _ (hp 0 (by omega)), fun j hj => ?_⟩⟩
    · obtain rfl : i = 0 := by omega
      exact ⟨hq0, hq1⟩
    · rw [Nat.zero_add]; exact hp j hj

set_option maxRecDepth 100000 in
set_option maxHeartbeats 4000000 in
theorem meshNames_arg (w : World) : Calls Try.prog 6 #[] w fun e w' => e = .returned (.bool true) ∧ Below w.heap.size w w' := by
  have hq := eql_tri
  obtain ⟨i0, hi0, hz0, hz1, hz2⟩ := info_parts v51_info
  obtain ⟨j0, hj0, hy0, hy1, hy2⟩ := info_parts v52_info
  have hm38 : ∀ W : World, (Instr.makeSlice 38 (.int .i64 3) (.int .i64 3)).run Try.prog W = .ok (.slice (some ⟨W.heap.size, 0, none⟩) 3 3) (W.alloc (.cells #[.int .i64 0, .int .i64 0, .int .i64 0, .int .i64 0, .int .i64 0, .int .i64 0, .int .i64 0, .int .i64 0, .int .i64 0] 51)) := fun W => by
    have h := make_full Try.underlying38 hi0 hz0 3 (by omega) (by omega) W
    rw [hz1] at h
    have e : madeCells (Value.agg #[.int .i64 0, .int .i64 0, .int .i64 0]).cells (3 * 3) = #[.int .i64 0, .int .i64 0, .int .i64 0, .int .i64 0, .int .i64 0, .int .i64 0, .int .i64 0, .int .i64 0, .int .i64 0] := by kernel_rfl
    rw [e] at h
    exact h
  have hm39 : ∀ W : World, (Instr.makeSlice 39 (.int .i64 3) (.int .i64 3)).run Try.prog W = .ok (.slice (some ⟨W.heap.size, 0, none⟩) 3 3) (W.alloc (.cells #[.int .i64 0, .int .i64 0, .int .i64 0, .int .i64 0, .int .i64 0, .int .i64 0] 52)) := fun W => by
    have h := make_full Try.underlying39 hj0 hy0 3 (by omega) (by omega) W
    rw [hy1] at h
    have e : madeCells (Value.agg #[.int .i64 0, .int .i64 0]).cells (3 * 2) = #[.int .i64 0, .int .i64 0, .int .i64 0, .int .i64 0, .int .i64 0, .int .i64 0] := by kernel_rfl
    rw [e] at h
    exact h
  have hm65 : ∀ W : World, (Instr.makeSlice 38 (.int .i64 65) (.int .i64 65)).run Try.prog W = .ok (.slice (some ⟨W.heap.size, 0, none⟩) 65 65) (W.alloc (.cells (madeCells (Value.agg #[.int .i64 0, .int .i64 0, .int .i64 0]).cells (65 * i0.size)) 51)) := fun W => by
    have h := make_full Try.underlying38 hi0 hz0 65 (by omega) (by omega) W
    exact h
  clear hz1 hz2 hy1 hy2 hz0 hy0 hi0 hj0
  have hI := Lib.hid (IS.of_blk (hasBlk_new w 3 #[.int .i64 0, .int .i64 1, .int .i64 2, .int .i64 3]) [0, 1, 2, 3] rfl)
  go_enter Try.func6, Try.ntmps6
  go_wp2_with fail
  refine (prim9_any 2 (by decide) 4 (some ⟨w.heap.size, 0, none⟩) 4 (fun i => [0, 1, 2, 3].getD i 0) _ hI.out).mono ?_
  rintro e w1 ⟨hx, bel1⟩
  obtain ⟨X, m, cx, rfl, hm, hX⟩ := hx.res
  have hp : pcode 2 4 = 0 := by decide
  rw [hp] at hm ⊢
  simp only [if_true] at hm
  obtain rfl : m = 2 := hm
  have HX := Lib.hid (Row.of_cells hX)
  have B1 := Lib.hid (((Below.refl w.heap.size w).alloc (Nat.le_refl _) (.cells #[.int .i64 0, .int .i64 1, .int .i64 2, .int .i64 3] 3)).trans (bel1.mono (by simp)))
  clear hx hX bel1 hI hp
  have hI := Lib.hid (IS.of_blk (hasBlk_new w1 3 #[.int .i64 0, .int .i64 1, .int .i64 2, .int .i64 3]) [0, 1, 2, 3] rfl)
  go_wp2_with fail
  refine (prim9_any 0 (by decide) 4 (some ⟨w1.heap.size, 0, none⟩) 4 (fun i => [0, 1, 2, 3].getD i 0) _ hI.out).mono ?_
  rintro e w2 ⟨hx, bel2⟩
  obtain ⟨X2, m2, cx2, rfl, hm, hX⟩ := hx.res
  have hp : pcode 0 4 = 40 := by decide
  rw [hp]
  have b2 := ((Below.refl w1.heap.size w1).alloc (Nat.le_refl _) (.cells #[.int .i64 0, .int .i64 1, .int .i64 2, .int .i64 3] 3)).trans (bel2.mono (by simp))
  have HX2 := Lib.hid (HX.out.below b2)
  have B2 := Lib.hid (B1.out.trans (b2.mono B1.out.size))
  clear hx hX bel2 hI hp hm b2 HX B1
  go_wp2_with fail
  refine (prim9_any 3 (by decide) 0 none 0 (fun i => 0) _ (fun h => absurd h (by omega))).mono ?_
  rintro e w3 ⟨hx, bel3⟩
  obtain ⟨X3, m3, cx3, rfl, hm, hX⟩ := hx.res
  have hp : pcode 3 0 = 2 := by decide
  rw [hp]
  have HX := Lib.hid (HX2.out.below bel3)
  have B3 := Lib.hid (B2.out.trans (bel3.mono B2.out.size))
  clear hx hX bel3 hp hm HX2 B2
  go_upto_region 4 with fail
  go_cut [7] (fun s7 wx => Below w3.heap.size w3 wx ∧ ∃ a b p q t : Nat, s7 = .pointer (some ⟨t, 0, none⟩) ∧ wx.cell? ⟨t, 0, none⟩ = some (.slice (some ⟨a, 0, none⟩) 3 3) ∧ wx.cell? ⟨t, 1, none⟩ = some (.slice (some ⟨b, 0, none⟩) 3 3) ∧ wx.cell? ⟨t, 2, none⟩ = some (.slice (some ⟨q, 0, none⟩) 1 1) ∧ wx.cell? ⟨q, 1, none⟩ = some (.slice (some ⟨p, 0, none⟩) 3 3) ∧ wx.cell? ⟨q, 0, none⟩ = some (.int .u8 2) ∧ wx.cell? ⟨a, 0, none⟩ = some (.int .i64 0) ∧ wx.cell? ⟨a, 1, none⟩ = some (.int .i64 0) ∧ wx.cell? ⟨a, 2, none⟩ = some (.int .i64 0) ∧ wx.cell? ⟨a, 3, none⟩ = some (.int .i64 0) ∧ wx.cell? ⟨a, 4, none⟩ = some (.int .i64 0) ∧ wx.cell? ⟨a, 5, none⟩ = some (.int .i64 0) ∧ wx.cell? ⟨a, 6, none⟩ = some (.int .i64 0) ∧ wx.cell? ⟨a, 7, none⟩ = some (.int .i64 0) ∧ wx.cell? ⟨a, 8, none⟩ = some (.int .i64 0) ∧ wx.cell? ⟨b, 0, none⟩ = some (.int .i64 0) ∧ wx.cell? ⟨b, 1, none⟩ = some (.int .i64 0) ∧ wx.cell? ⟨b, 2, none⟩ = some (.int .i64 0) ∧ wx.cell? ⟨b, 3, none⟩ = some (.int .i64 0) ∧ wx.cell? ⟨b, 4, none⟩ = some (.int .i64 0) ∧ wx.cell? ⟨b, 5, none⟩ = some (.int .i64 0) ∧ wx.cell? ⟨p, 0, none⟩ = some (.int .i64 0) ∧ wx.cell? ⟨p, 1, none⟩ = some (.int .i64 1) ∧ wx.cell? ⟨p, 2, none⟩ = some (.int .i64 3))
  case first =>
    go_region
    all_goals (go_wp2_with fail; go_meet; refine ⟨?_, ?_⟩; (repeat' (first | exact Below.refl _ _ | assumption | apply Below.drew | refine Below.setCell ?_ (by first | omega | (simp; done) | (simp; omega)) _ | refine Below.alloc ?_ (by first | omega | (simp; done) | (simp; omega)) _)); simp [go_sem])
  case rest =>
    obtain ⟨bel4, a, b, p, q, t, rfl, k0, k1, k2, k3, k4, k5, k6, k7, k8, k9, k10, k11, k12, k13, k14, k15, k16, k17, k18, k19, k20, k21, k22⟩ := hcut
    have la : a < wc.heap.size := World.block_lt_of_cell? wc _ k5
    have lb : b < wc.heap.size := World.block_lt_of_cell? wc _ k14
    have lp : p < wc.heap.size := World.block_lt_of_cell? wc _ k20
    have lq : q < wc.heap.size := World.block_lt_of_cell? wc _ k3
    have lt : t < wc.heap.size := World.block_lt_of_cell? wc _ k0
    have ka : ∀ j, j < 9 → wc.cell? ⟨a, j, none⟩ = some (.int .i64 0) := by
      intro j hj
      obtain rfl | rfl | rfl | rfl | rfl | rfl | rfl | rfl | rfl : j = 0 ∨ j = 1 ∨ j = 2 ∨ j = 3 ∨ j = 4 ∨ j = 5 ∨ j = 6 ∨ j = 7 ∨ j = 8 := by omega
      all_goals assumption
    have kb : ∀ j, j < 6 → wc.cell? ⟨b, j, none⟩ = some (.int .i64 0) := by
      intro j hj
      obtain rfl | rfl | rfl | rfl | rfl | rfl : j = 0 ∨ j = 1 ∨ j = 2 ∨ j = 3 ∨ j = 4 ∨ j = 5 := by omega
      all_goals assumption
    have kp : ∀ j, j < 3 → wc.cell? ⟨p, j, none⟩ = some (.int .i64 ([0, 1, 3].getD j 0)) := by
      intro j hj
      obtain rfl | rfl | rfl : j = 0 ∨ j = 1 ∨ j = 2 := by omega
      all_goals assumption
    have hct := Lib.hid (fun W (h : Below wc.heap.size wc W) => check_three W a b p q (fun j hj => (h.cell (p := ⟨a, j, none⟩) la).trans (ka j hj)) (fun j hj => (h.cell (p := ⟨b, j, none⟩) lb).trans (kb j hj)) (fun j hj => (h.cell (p := ⟨p, j, none⟩) lp).trans (kp j hj)) ((h.cell (p := ⟨q, 0, none⟩) lq).trans k4) ((h.cell (p := ⟨q, 1, none⟩) lq).trans k3))
    have hT := Lib.hid (And.intro lt (And.intro k0 (And.intro k1 k2)))
    obtain ⟨g, off, rfl, hg, hc⟩ := HX.out.below bel4 (by decide)
    have c0 := hc 0 (by decide) 0 (by decide)
    have c1 := hc 0 (by decide) 1 (by decide)
    have c2 := hc 0 (by decide) 2 (by decide)
    have d0 := hc 1 (by decide) 0 (by decide)
    have d1 := hc 1 (by decide) 1 (by decide)
    have d2 := hc 1 (by decide) 2 (by decide)
    have B4 := Lib.hid (B3.out.trans (bel4.mono B3.out.size))
    clear hc bel4 la lb lp lq lt ka kb kp k0 k1 k2 k3 k4 k5 k6 k7 k8 k9 k10 k11 k12 k13 k14 k15 k16 k17 k18 k19 k20 k21 k22 hm38 hm39 B3 HX
    have v0 : tv 2 (fun i => [0, 1, 2, 3].getD i 0) 0 0 = .int .i64 0 := rfl
    have v1 : tv 2 (fun i => [0, 1, 2, 3].getD i 0) 0 1 = .int .i64 1 := rfl
    have v2 : tv 2 (fun i => [0, 1, 2, 3].getD i 0) 0 2 = .int .i64 2 := rfl
    have u0 : tv 2 (fun i => [0, 1, 2, 3].getD i 0) 1 0 = .int .i64 0 := rfl
    have u1 : tv 2 (fun i => [0, 1, 2, 3].getD i 0) 1 1 = .int .i64 2 := rfl
    have u2 : tv 2 (fun i => [0, 1, 2, 3].getD i 0) 1 2 = .int .i64 3 := rfl
    rw [v0] at c0
    rw [v1] at c1
    rw [v2] at c2
    rw [u0] at d0
    rw [u1] at d1
    rw [u2] at d2
    clear v0 v1 v2 u0 u1 u2
    simp at c0 c1 c2 d0 d1 d2
    go_wp2_with fail
    refine (alive_any _).mono ?_
    rintro e w5 ⟨rfl, bel5⟩
    obtain ⟨lt, k0, k1, k2⟩ := hT.out
    have t0 := (bel5.cell (p := ⟨t, 0, none⟩) lt).trans k0
    have t1 := (bel5.cell (p := ⟨t, 1, none⟩) lt).trans k1
    have t2 := (bel5.cell (p := ⟨t, 2, none⟩) lt).trans k2
    have Bel5 := Lib.hid bel5
    clear k0 k1 k2 bel5 hT c0 c1 c2 d0 d1 d2
    go_wp2_with fail
    refine (hct.out _ Bel5.out).mono ?_
    rintro e w6 ⟨rfl, bel6⟩
    have B6 := Lib.hid (B4.out.trans ((Bel5.out.trans (bel6.mono Bel5.out.size)).mono B4.out.size))
    clear bel6 t0 t1 t2 hct
    go_wp2_with fail
    refine (check_zero _).mono ?_
    rintro e w7 ⟨rfl, bel7⟩
    have B7 := Lib.hid (B6.out.trans (bel7.mono B6.out.size))
    clear bel7
    go_wp2_with fail
    refine (check15_long _ 65 65 _ (by omega)).mono ?_
    rintro e w8 ⟨rfl, bel8⟩
    have B8 := Lib.hid ((B7.out.alloc B7.out.size _).trans (bel8.mono (by have := B7.out.size; simp; omega)))
    clear bel8
    go_wp2
    go_ret
    exact ⟨rfl, B8.out⟩
end Go.Proofs.Ytkclkillphafkaa
