/- top: places and pixels of a shadow. -/
import Derived.Test.YtemopgpcpjnmkaaDoorT2
namespace Go.Proofs.YtemopgpcpjnmkaaDoor
open Go.RowKit
set_option linter.unusedVariables false

set_option maxRecDepth 100000 in
set_option maxHeartbeats 8000000 in
theorem plo_any (g m near far n : Int) (hg : 0 ≤ g ∧ g ≤ 1000000) (hnb : -1000000 ≤ n ∧ n ≤ 1000000) (h1 : 1 ≤ near ∧ near ≤ 1000000) (h2 : 1 ≤ far ∧ far ≤ 1000000) (w : World) : Calls Tryd.prog 18 #[.agg #[.int .i64 g, .int .i64 m, .int .i64 near, .int .i64 far], .int .i64 n, .bool false] w fun e w' => e = .returned (.int .i64 (plo g n near far)) ∧ Below w.heap.size w w' := by
  have hgn : -4611686018427387904 ≤ g * n ∧ g * n ≤ 4611686018427387904 := by
    obtain ⟨h1, h2⟩ := hg
    obtain ⟨h3, h4⟩ := hnb
    have k1 : g * n ≤ g * 1000000 := Int.mul_le_mul_of_nonneg_left h4 h1
    have k2 : g * -1000000 ≤ g * n := Int.mul_le_mul_of_nonneg_left h3 h1
    omega
  have HB := Lib.hid ((Below.refl w.heap.size w).alloc (Nat.le_refl _) (.cells #[.int .i64 g, .int .i64 m, .int .i64 near, .int .i64 far] 77))
  have P1 := Lib.hid (hasBlk_new w 77 #[.int .i64 g, .int .i64 m, .int .i64 near, .int .i64 far])
  by_cases hn : 0 ≤ n
  · have g1 : decide (0 ≤ n) = true := decide_eq_true hn
    have HE := Lib.hid (show plo g n near far = g * n / far by unfold plo; rw [if_pos hn])
    have KX := Lib.hid (fun W => floor_any (g * n) far (by omega) (by omega) (by omega) W)
    clear hn
    obtain ⟨q, hq⟩ : ∃ q, g * n = q := ⟨_, rfl⟩
    rw [hq] at HE KX hgn
    have w1 : IntKind.i64.wrap q = q := IntWalk.i64_in _ (by omega)
    go_enter Tryd.func18, Tryd.ntmps18
    go_upto_region 1 with fail
    generalize w.alloc (.cells #[.int .i64 g, .int .i64 m, .int .i64 near, .int .i64 far] 77) = v0 at *
    have p1_ := P1.out.c4
    go_wp2_with fail
    refine (KX.out _).mono ?_
    rintro e v1 ⟨rfl, bel⟩
    have HC := Lib.hid (HB.out.trans (bel.mono HB.out.size))
    clear p1_
    clear bel HB P1 KX hq
    go_wp2
    go_ret
    exact ⟨by rw [HE.out]; rfl, HC.out⟩
  · have g1 : decide (0 ≤ n) = false := decide_eq_false hn
    have HE := Lib.hid (show plo g n near far = g * n / near by unfold plo; rw [if_neg hn])
    have KX := Lib.hid (fun W => floor_any (g * n) near (by omega) (by omega) (by omega) W)
    clear hn
    obtain ⟨q, hq⟩ : ∃ q, g * n = q := ⟨_, rfl⟩
    rw [hq] at HE KX hgn
    have w1 : IntKind.i64.wrap q = q := IntWalk.i64_in _ (by omega)
    go_enter Tryd.func18, Tryd.ntmps18
    go_upto_region 1 with fail
    generalize w.alloc (.cells #[.int .i64 g, .int .i64 m, .int .i64 near, .int .i64 far] 77) = v0 at *
    have p1_ := P1.out.c4
    go_wp2_with fail
    refine (KX.out _).mono ?_
    rintro e v1 ⟨rfl, bel⟩
    have HC := Lib.hid (HB.out.trans (bel.mono HB.out.size))
    clear p1_
    clear bel HB P1 KX hq
    go_wp2
    go_ret
    exact ⟨by rw [HE.out]; rfl, HC.out⟩

set_option maxRecDepth 100000 in
set_option maxHeartbeats 8000000 in
theorem phi_any (g m near far n : Int) (hg : 0 ≤ g ∧ g ≤ 1000000) (hnb : -1000000 ≤ n ∧ n ≤ 1000000) (h1 : 1 ≤ near ∧ near ≤ 1000000) (h2 : 1 ≤ far ∧ far ≤ 1000000) (w : World) : Calls Tryd.prog 18 #[.agg #[.int .i64 g, .int .i64 m, .int .i64 near, .int .i64 far], .int .i64 n, .bool true] w fun e w' => e = .returned (.int .i64 (phi g n near far)) ∧ Below w.heap.size w w' := by
  have hgn : -4611686018427387904 ≤ g * n ∧ g * n ≤ 4611686018427387904 := by
    obtain ⟨h1, h2⟩ := hg
    obtain ⟨h3, h4⟩ := hnb
    have k1 : g * n ≤ g * 1000000 := Int.mul_le_mul_of_nonneg_left h4 h1
    have k2 : g * -1000000 ≤ g * n := Int.mul_le_mul_of_nonneg_left h3 h1
    omega
  have HB := Lib.hid ((Below.refl w.heap.size w).alloc (Nat.le_refl _) (.cells #[.int .i64 g, .int .i64 m, .int .i64 near, .int .i64 far] 77))
  have P1 := Lib.hid (hasBlk_new w 77 #[.int .i64 g, .int .i64 m, .int .i64 near, .int .i64 far])
  by_cases hn : 0 ≤ n
  · have g1 : decide (0 ≤ n) = true := decide_eq_true hn
    have HE := Lib.hid (show phi g n near far = g * n / near by unfold phi; rw [if_pos hn])
    have KX := Lib.hid (fun W => floor_any (g * n) near (by omega) (by omega) (by omega) W)
    clear hn
    obtain ⟨q, hq⟩ : ∃ q, g * n = q := ⟨_, rfl⟩
    rw [hq] at HE KX hgn
    have w1 : IntKind.i64.wrap q = q := IntWalk.i64_in _ (by omega)
    go_enter Tryd.func18, Tryd.ntmps18
    go_upto_region 1 with fail
    generalize w.alloc (.cells #[.int .i64 g, .int .i64 m, .int .i64 near, .int .i64 far] 77) = v0 at *
    have p1_ := P1.out.c4
    go_wp2_with fail
    refine (KX.out _).mono ?_
    rintro e v1 ⟨rfl, bel⟩
    have HC := Lib.hid (HB.out.trans (bel.mono HB.out.size))
    clear p1_
    clear bel HB P1 KX hq
    go_wp2
    go_ret
    exact ⟨by rw [HE.out]; rfl, HC.out⟩
  · have g1 : decide (0 ≤ n) = false := decide_eq_false hn
    have HE := Lib.hid (show phi g n near far = g * n / far by unfold phi; rw [if_neg hn])
    have KX := Lib.hid (fun W => floor_any (g * n) far (by omega) (by omega) (by omega) W)
    clear hn
    obtain ⟨q, hq⟩ : ∃ q, g * n = q := ⟨_, rfl⟩
    rw [hq] at HE KX hgn
    have w1 : IntKind.i64.wrap q = q := IntWalk.i64_in _ (by omega)
    go_enter Tryd.func18, Tryd.ntmps18
    go_upto_region 1 with fail
    generalize w.alloc (.cells #[.int .i64 g, .int .i64 m, .int .i64 near, .int .i64 far] 77) = v0 at *
    have p1_ := P1.out.c4
    go_wp2_with fail
    refine (KX.out _).mono ?_
    rintro e v1 ⟨rfl, bel⟩
    have HC := Lib.hid (HB.out.trans (bel.mono HB.out.size))
    clear p1_
    clear bel HB P1 KX hq
    go_wp2
    go_ret
    exact ⟨by rw [HE.out]; rfl, HC.out⟩

set_option maxRecDepth 100000 in
set_option maxHeartbeats 8000000 in
theorem pixels_any (g m near far lo hi fr too : Int) (h1 : -1000000000 ≤ lo ∧ lo ≤ 1000000000) (h2 : -1000000000 ≤ hi ∧ hi ≤ 1000000000) (w : World) : Calls Tryd.prog 17 #[.agg #[.int .i64 g, .int .i64 m, .int .i64 near, .int .i64 far], .int .i64 lo, .int .i64 hi, .int .i64 fr, .int .i64 too] w fun e w' => e = .returned (.tuple #[.int .i64 (max (first lo) fr), .int .i64 (min (last hi) too), .bool (decide (max (first lo) fr ≤ min (last hi) too))]) ∧ Below w.heap.size w w' := by
  have w1 : IntKind.i64.wrap (lo - 4) = lo - 4 := IntWalk.i64_in _ (by omega)
  have w2 : IntKind.i64.wrap (hi - 4) = hi - 4 := IntWalk.i64_in _ (by omega)
  have HB := Lib.hid ((Below.refl w.heap.size w).alloc (Nat.le_refl _) (.cells #[.int .i64 g, .int .i64 m, .int .i64 near, .int .i64 far] 77))
  have KX := Lib.hid (fun W => ceil_any (lo - 4) 8 (by omega) (by omega) (by omega) W)
  have KY := Lib.hid (fun W => floor_any (hi - 4) 8 (by omega) (by omega) (by omega) W)
  go_enter Tryd.func17, Tryd.ntmps17
  go_wp2_with fail
  refine (KX.out _).mono ?_
  rintro e v1 ⟨rfl, bel⟩
  have HC := Lib.hid (HB.out.trans (bel.mono HB.out.size))
  clear HB KX bel
  go_wp2_with fail
  refine (KY.out _).mono ?_
  rintro e v2 ⟨rfl, bel⟩
  have HD := Lib.hid (HC.out.trans (bel.mono HC.out.size))
  clear HC KY bel w1 w2
  have HA := Lib.hid (And.intro (show first lo = -(-(lo - 4) / 8) from rfl) (show last hi = (hi - 4) / 8 from rfl))
  obtain ⟨a, ha⟩ : ∃ a, -(-(lo - 4) / 8) = a := ⟨_, rfl⟩
  obtain ⟨b, hb⟩ : ∃ b, (hi - 4) / 8 = b := ⟨_, rfl⟩
  rw [ha, hb] at HA ⊢
  clear ha hb
  by_cases hca : fr ≤ a
  · by_cases hcb : b ≤ too
    · have k1 : fr ≤ a := hca
      have k2 : ¬ a < fr := by omega
      have k3 : b ≤ too := hcb
      have k4 : ¬ too < b := by omega
      have HM := Lib.hid (show max a fr = a ∧ min b too = b by omega)
      clear hca hcb
      go_wp2
      refine bodyPost_ret (results_tmp3 rfl _ _ _) rfl ?_
      exact ⟨by rw [HA.out.1, HA.out.2, HM.out.1, HM.out.2]; rfl, HD.out⟩
    · have k1 : fr ≤ a := hca
      have k2 : ¬ a < fr := by omega
      have k3 : ¬ b ≤ too := hcb
      have k4 : too < b := by omega
      have HM := Lib.hid (show max a fr = a ∧ min b too = too by omega)
      clear hca hcb
      go_wp2
      refine bodyPost_ret (results_tmp3 rfl _ _ _) rfl ?_
      exact ⟨by rw [HA.out.1, HA.out.2, HM.out.1, HM.out.2]; rfl, HD.out⟩
  · by_cases hcb : b ≤ too
    · have k1 : ¬ fr ≤ a := hca
      have k2 : a < fr := by omega
      have k3 : b ≤ too := hcb
      have k4 : ¬ too < b := by omega
      have HM := Lib.hid (show max a fr = fr ∧ min b too = b by omega)
      clear hca hcb
      go_wp2
      refine bodyPost_ret (results_tmp3 rfl _ _ _) rfl ?_
      exact ⟨by rw [HA.out.1, HA.out.2, HM.out.1, HM.out.2]; rfl, HD.out⟩
    · have k1 : ¬ fr ≤ a := hca
      have k2 : a < fr := by omega
      have k3 : ¬ b ≤ too := hcb
      have k4 : too < b := by omega
      have HM := Lib.hid (show max a fr = fr ∧ min b too = too by omega)
      clear hca hcb
      go_wp2
      refine bodyPost_ret (results_tmp3 rfl _ _ _) rfl ?_
      exact ⟨by rw [HA.out.1, HA.out.2, HM.out.1, HM.out.2]; rfl, HD.out⟩
end Go.Proofs.YtemopgpcpjnmkaaDoor
