/- pyramid: the reference's Check. -/
import Derived.Test.YtibeoeooajelgaaY10
namespace Go.Proofs.Ytibeoeooajelgaa
open Go.RowKit
set_option linter.unusedVariables false

set_option maxRecDepth 100000 in
set_option maxHeartbeats 16000000 in
theorem refcheckp_any (d : PD) (p : PP) (hsm : d.Sm) (w : World) (hok : POk w p d) :
    Calls Try.prog 40 #[.agg #[.slice p.A d.n p.c]] w fun e w' => e = .returned (.int .i64 (chkP d)) ∧ Below w.heap.size w w' := by
  obtain ⟨A, c, KA, KC⟩ := p
  dsimp only
  have B0 := Lib.hid ((Below.refl w.heap.size w).alloc (Nat.le_refl _) (.cells #[.slice A d.n c] 51))
  have P1 := Lib.hid (hasBlk_new w 51 #[.slice A d.n c])
  have OK := Lib.hid hok
  have Sm := Lib.hid hsm
  have hn := hsm.n
  clear hok hsm
  by_cases hn0 : d.n = 0
  · rw [chkP_no (fun h => by have := h.n; omega)]
    have g0 : (d.n : Int) = 0 := by omega
    clear hn0 hn
    go_enter Try.func40, Try.ntmps40
    go_wp2
    go_ret
    exact ⟨rfl, B0.out⟩
  obtain ⟨gA, oA, hA, hgA, hcA⟩ := OK.out.ls (by omega)
  dsimp only at hA
  subst hA
  have a0 := hcA 0 (by omega) 0 (by omega)
  have a1 := hcA 0 (by omega) 1 (by omega)
  have a2 := hcA 0 (by omega) 2 (by omega)
  simp [pvc] at a0 a1 a2
  have RK := Lib.hid (OK.out.kd 0 (by omega))
  have SL := Lib.hid (Sm.out.L 0 (by omega))
  have NZ := Lib.hid hn0
  have nz1 : ¬ (d.n : Int) = 0 := by omega
  have nz2 : (0 : Int) < (d.n : Int) := by omega
  clear hcA
  dsimp only at RK
  obtain ⟨W, hW⟩ : ∃ W, d.W 0 = W := ⟨_, rfl⟩
  obtain ⟨H, hH⟩ : ∃ H, d.H 0 = H := ⟨_, rfl⟩
  obtain ⟨L, hL⟩ : ∃ L, d.L 0 = L := ⟨_, rfl⟩
  obtain ⟨K0, hK0⟩ : ∃ K0, KA 0 = K0 := ⟨_, rfl⟩
  obtain ⟨C0, hC0⟩ : ∃ C0, KC 0 = C0 := ⟨_, rfl⟩
  rw [hW] at a0
  rw [hH] at a1
  rw [hL, hK0, hC0] at a2
  rw [hL, hK0] at RK
  rw [hL] at SL
  have HW := Lib.hid hW
  have HH := Lib.hid hH
  have HL := Lib.hid hL
  clear hW hH hL hK0 hC0 hn0
  go_enter Try.func40, Try.ntmps40
  by_cases h1 : W < 1
  · have g1 : decide (W < 1) = true := decide_eq_true h1
    rw [chkP_no (fun h => by have := h.W1; rw [HW.out] at *; omega)]
    clear RK
    go_wp2
    go_ret
    exact ⟨rfl, B0.out.alloc B0.out.size _⟩
  have g1 : decide (W < 1) = false := decide_eq_false h1
  by_cases h2 : 64 < W
  · have g2 : decide (64 < W) = true := decide_eq_true h2
    rw [chkP_no (fun h => by have := h.W2; rw [HW.out] at *; omega)]
    clear RK
    go_wp2
    go_ret
    exact ⟨rfl, B0.out.alloc B0.out.size _⟩
  have g2 : decide (64 < W) = false := decide_eq_false h2
  by_cases h3 : H < 1
  · have g3 : decide (H < 1) = true := decide_eq_true h3
    rw [chkP_no (fun h => by have := h.H1; rw [HH.out] at *; omega)]
    clear RK
    go_wp2
    go_ret
    exact ⟨rfl, B0.out.alloc B0.out.size _⟩
  have g3 : decide (H < 1) = false := decide_eq_false h3
  by_cases h4 : 64 < H
  · have g4 : decide (64 < H) = true := decide_eq_true h4
    rw [chkP_no (fun h => by have := h.H2; rw [HH.out] at *; omega)]
    clear RK
    go_wp2
    go_ret
    exact ⟨rfl, B0.out.alloc B0.out.size _⟩
  have g4 : decide (64 < H) = false := decide_eq_false h4
  obtain ⟨X, rfl⟩ := Int.eq_ofNat_of_zero_le (show 0 ≤ W by omega)
  obtain ⟨Y, rfl⟩ := Int.eq_ofNat_of_zero_le (show 0 ≤ H by omega)
  have hx1 : 1 ≤ X := by omega
  have hx2 : X ≤ 64 := by omega
  have hy1 : 1 ≤ Y := by omega
  have hy2 : Y ≤ 64 := by omega
  have hmul : (X : Int) * (Y : Int) = ((X * Y : Nat) : Int) := by push_cast; rfl
  have hzz : X * Y ≤ 4096 := Nat.mul_le_mul hx2 hy2
  have w1 : IntKind.i64.wrap (((X * Y : Nat) : Int)) = ((X * Y : Nat) : Int) := IntWalk.i64_in _ (by omega)
  have hz0 : 1 ≤ X * Y := Nat.mul_le_mul hx1 hy1
  generalize hZ : X * Y = Z at *
  have ZZ := Lib.hid hZ
  clear hZ
  by_cases h5 : L = Z
  rotate_left
  · have g5 : ((L : Int) != (Z : Int)) = true := by simp; omega
    rw [chkP_no (fun h => by have h9 := h.L; rw [HW.out, HH.out, HL.out, hmul] at h9; omega)]
    clear RK
    go_wp2
    go_ret
    exact ⟨rfl, B0.out.alloc B0.out.size _⟩
  subst h5
  have g5 : ((L : Int) != (L : Int)) = false := by simp
  go_wp2
  have BA := (Below.refl (w.alloc (.cells #[.slice (some ⟨gA, oA, none⟩) d.n c] 51)).heap.size (w.alloc (.cells #[.slice (some ⟨gA, oA, none⟩) d.n c] 51))).alloc (Nat.le_refl _) (.cells #[.int .i64 X, .int .i64 Y, .slice K0 L C0] 74)
  have S3 := Lib.hid (hasBlk_new (w.alloc (.cells #[.slice (some ⟨gA, oA, none⟩) d.n c] 51)) 74 #[.int .i64 X, .int .i64 Y, .slice K0 L C0])
  have S1 := Lib.hid (P1.out.below BA)
  have BO := Lib.hid B0.out
  have BI := Lib.hid BA
  obtain ⟨t3, ht3⟩ : ∃ t3, t3 = (w.alloc (.cells #[.slice (some ⟨gA, oA, none⟩) d.n c] 51)).heap.size := ⟨_, rfl⟩
  rw [← ht3] at S3
  simp at ht3
  rw [← ht3]
  clear BA g1 g2 g3 g4 g5 a0 a1 a2 hgA
  generalize hw0 : w.alloc (.cells #[.slice (some ⟨gA, oA, none⟩) d.n c] 51) = w0 at *
  clear hw0
  generalize hw1 : w0.alloc (.cells #[.int .i64 X, .int .i64 Y, .slice K0 L C0] 74) = v0 at *
  clear hw1 ht3 P1 B0
  go_loopw [4] (fun i wr => ∃ k : Nat, k ≤ L ∧ i = .int .i64 k ∧ (∀ i, i < k → -2048 ≤ d.f 0 i ∧ d.f 0 i ≤ 66560) ∧ Below v0.heap.size v0 wr) (fun i wr => L - (intOf i).toNat)
  case atStart => exact ⟨0, Nat.zero_le _, rfl, fun j hj => absurd hj (by omega), Below.refl _ _⟩
  case round =>
    obtain ⟨i, hi, rfl, hall, hbel⟩ := hrel
    have AL := Lib.hid hall
    have BV := Lib.hid hbel
    have zb := hbel.size
    have S3' := Lib.hid (S3.out.below hbel)
    have s2 := S3'.out.cell 2
    have sz := S3'.out.lt
    simp at s2
    clear hall hbel
    by_cases him : i < L
    rotate_left
    · obtain rfl : L = i := by omega
      have d0 : decide ((L : Int) < (L : Int)) = false := by simp
      go_upto_region 11 with fail
      clear s2 sz d0
      have S1' := Lib.hid (S1.out.below BV.out)
      have BI' := Lib.hid (BI.out.trans (BV.out.mono BI.out.size))
      clear S1 S3 BI BV
      have S1 := Lib.hid S1'.out
      have S3 := Lib.hid S3'.out
      have BI := Lib.hid BI'.out
      clear S1' S3' BI'
      generalize wr = vq at *
      have bd := (Below.refl vq.heap.size vq).drew
      have HS := Lib.hid (show (fun Wo => HasBlk Wo t3 74 #[.int .i64 X, .int .i64 Y, .slice K0 L C0] ∧ HasBlk Wo w.heap.size 51 #[.slice (some ⟨gA, oA, none⟩) d.n c]) vq from ⟨S3.out, S1.out⟩)
      have BI' := Lib.hid (BI.out.trans (bd.mono BI.out.size))
      have S1' := Lib.hid (S1.out.below bd)
      have S3' := Lib.hid (S3.out.below bd)
      clear BI S1 S3 HS
      have BI := Lib.hid BI'.out
      have S1 := Lib.hid S1'.out
      have S3 := Lib.hid S3'.out
      clear BI' S1' S3'
      have HS := Lib.hid (show (fun Wo => HasBlk Wo t3 74 #[.int .i64 X, .int .i64 Y, .slice K0 L C0] ∧ HasBlk Wo w.heap.size 51 #[.slice (some ⟨gA, oA, none⟩) d.n c]) vq.drew from ⟨S3.out, S1.out⟩)
      clear bd
      refine wp_region_E (fun Wo => HasBlk Wo t3 74 #[.int .i64 X, .int .i64 Y, .slice K0 L C0] ∧ HasBlk Wo w.heap.size 51 #[.slice (some ⟨gA, oA, none⟩) d.n c]) 99 (by kernel_rfl) ?_
      generalize gwd : vq.drew = v3 at *
      clear gwd
      refine wpAnyE_takeA (i := 0) (v := .agg #[.int .i64 X, .int .i64 Y, .slice K0 L C0]) rfl (by kernel_rfl) (fun _ _ _ h => h) (.inl ⟨by first | kernel_rfl | rfl, fun W hW => ?_⟩) HS.out ?_
      · obtain ⟨hWP, hWA⟩ := hW
        have q0 := hWP.cell 0
        have q1 := hWP.cell 1
        have q2 := hWP.cell 2
        have r0 := hWA.cell 0
        simp at q0 q1 q2 r0
        go_simp
      simp only [Act.put, List.setIfInBounds_toArray]
      refine wpAnyE_takeA (i := 2) (v := .agg #[.slice (some ⟨gA, oA, none⟩) d.n c]) rfl (by kernel_rfl) (fun _ _ _ h => h) (.inl ⟨by first | kernel_rfl | rfl, fun W hW => ?_⟩) HS.out ?_
      · obtain ⟨hWP, hWA⟩ := hW
        have q0 := hWP.cell 0
        have q1 := hWP.cell 1
        have q2 := hWP.cell 2
        have r0 := hWA.cell 0
        simp at q0 q1 q2 r0
        go_simp
      simp only [Act.put]
      have hk := refbuilt_any (⟨X, Y, fun x y => d.f 0 (y * X + x)⟩ : LD) K0 C0 v3 hx1 hx2 hy1 hy2 (fun x y hx hy => (AL.out _ (by
        have := LD.row_lt hx hy
        dsimp only at this
        rw [ZZ.out] at this
        exact this)).2) (by
        have h := (RK.out.below (BO.out.trans (BI.out.mono BO.out.size)))
        have e := ZZ.out
        subst e
        refine h.congr fun i hi j hj => ?_
        show _ = Value.int .i64 (LD.row _ i)
        rw [show LD.row (⟨X, Y, fun x y => d.f 0 (y * X + x)⟩ : LD) i = d.f 0 i by unfold LD.row; dsimp only; rw [Nat.mul_comm, Nat.div_add_mod]])
      dsimp only at hk
      rw [ZZ.out] at hk
      have KX := Lib.hid hk
      clear hk
      refine wpAnyE_step (i := 1) rfl (by kernel_rfl) (fun KQ HK => ?_)
      go_wp2_with fail
      refine KX.out.mono ?_
      rintro e v4 ⟨⟨k, pc, P, KA', KC', htop, rfl, hlv, hown⟩, bel⟩
      clear KX
      have TOP := Lib.hid htop
      have R0 := Lib.hid ((RK.out.below (BO.out.trans (BI.out.mono BO.out.size))).below bel)
      have BOK := Lib.hid (build_ok (p := ⟨P, pc, KA', KC'⟩) hlv hown (by
        have h := R0.out
        have e := ZZ.out
        subst e
        refine h.congr fun i hi j hj => ?_
        show _ = Value.int .i64 (LD.row _ i)
        rw [show LD.row (⟨X, Y, fun x y => d.f 0 (y * X + x)⟩ : LD) i = d.f 0 i by unfold LD.row; dsimp only; rw [Nat.mul_comm, Nat.div_add_mod]]))
      have K6 := Lib.hid hlv.k6
      clear htop hlv hown R0
      have BI' := Lib.hid (BI.out.trans (bel.mono BI.out.size))
      have S1' := Lib.hid (S1.out.below bel)
      have S3' := Lib.hid (S3.out.below bel)
      clear BI S1 S3 HS
      have BI := Lib.hid BI'.out
      have S1 := Lib.hid S1'.out
      have S3 := Lib.hid S3'.out
      clear BI' S1' S3'
      have HS := Lib.hid (show (fun Wo => HasBlk Wo t3 74 #[.int .i64 X, .int .i64 Y, .slice K0 L C0] ∧ HasBlk Wo w.heap.size 51 #[.slice (some ⟨gA, oA, none⟩) d.n c]) v4 from ⟨S3.out, S1.out⟩)
      clear bel
      go_wp2
      refine HK _ _ (fun _ => HS.out) ?_
      clear HK
      have OKW := Lib.hid (OK.out.below (BO.out.trans (BI.out.mono BO.out.size)))
      refine wpAnyE_step (i := 3) rfl (by kernel_rfl) (fun KQ HK => ?_)
      have KX := Lib.hid (refsamep_any ((⟨X, Y, fun x y => d.f 0 (y * X + x)⟩ : LD).pd k) d ⟨P, pc, KA', KC'⟩ _ v4 BOK.out OKW.out (pd_sm hx2 hy2 K6.out))
      go_wp2_with fail
      refine KX.out.mono ?_
      rintro e v5 ⟨⟨b, rfl, hb⟩, bel⟩
      clear KX BOK OKW
      have EB := Lib.hid hb
      clear hb
      have BI' := Lib.hid (BI.out.trans (bel.mono BI.out.size))
      have S1' := Lib.hid (S1.out.below bel)
      have S3' := Lib.hid (S3.out.below bel)
      clear BI S1 S3 HS
      have BI := Lib.hid BI'.out
      have S1 := Lib.hid S1'.out
      have S3 := Lib.hid S3'.out
      clear BI' S1' S3'
      have HS := Lib.hid (show (fun Wo => HasBlk Wo t3 74 #[.int .i64 X, .int .i64 Y, .slice K0 L C0] ∧ HasBlk Wo w.heap.size 51 #[.slice (some ⟨gA, oA, none⟩) d.n c]) v5 from ⟨S3.out, S1.out⟩)
      clear bel
      go_wp2
      refine HK _ _ (fun _ => HS.out) ?_
      clear HK
      have EQ0 := Lib.hid (show d.l0 = (⟨X, Y, fun x y => d.f 0 (y * X + x)⟩ : LD) by unfold PD.l0; rw [HW.out, HH.out]; rfl)
      cases b
      · have CV := Lib.hid (chkP_no (d := d) (fun h => by
          obtain ⟨k2, ht2, hs2⟩ := h.eq
          rw [EQ0.out] at ht2 hs2
          obtain rfl := LD.Top.fn ht2 TOP.out
          have := EB.out.2 hs2
          cases this))
        refine wpAnyE_step (i := 4) rfl (by kernel_rfl) (fun KQ HK => ?_)
        go_wp2
        refine HK _ _ (fun _ => HS.out) ?_
        clear HK
        refine wpAnyE_done (by kernel_rfl) ?_
        go_wp2
        go_ret
        exact ⟨by rw [CV.out]; rfl, BO.out.trans (BI.out.mono BO.out.size)⟩
      · have CV := Lib.hid (chkP_yes (d := d) ⟨by have := NZ.out; omega, by rw [HW.out]; omega, by rw [HW.out]; omega, by rw [HH.out]; omega, by rw [HH.out]; omega, by rw [HL.out, HW.out, HH.out, hmul], fun i hi => (AL.out i (by rw [← HL.out]; exact hi)).1, fun i hi => (AL.out i (by rw [← HL.out]; exact hi)).2, k, by rw [EQ0.out]; exact TOP.out, by rw [EQ0.out]; exact EB.out.1 (by first | rfl | trivial)⟩)
        refine wpAnyE_step (i := 4) rfl (by kernel_rfl) (fun KQ HK => ?_)
        go_wp2
        refine HK _ _ (fun _ => HS.out) ?_
        clear HK
        refine wpAnyE_done (by kernel_rfl) ?_
        go_wp2
        go_ret
        exact ⟨by rw [CV.out]; rfl, BO.out.trans (BI.out.mono BO.out.size)⟩
    have d0 : decide ((i : Int) < (L : Int)) = true := decide_eq_true (by omega)
    have RW := Lib.hid (RK.out.below (BO.out.trans ((BI.out.trans (BV.out.mono BI.out.size)).mono BO.out.size)))
    obtain ⟨gK, oK, rfl, hgK, hcK⟩ := RW.out (by omega)
    have c0 := hcK i him 0 (by omega)
    simp only [Nat.mul_one, Nat.add_zero] at c0
    obtain ⟨u, hu⟩ : ∃ u, d.f 0 i = u := ⟨_, rfl⟩
    rw [hu] at c0
    have UU := Lib.hid hu
    clear hu hcK RW
    have i1 : (i : Int) < (L : Int) := by omega
    have i2 : ¬ ((L : Int) ≤ (i : Int)) := by omega
    have i0 : (0 : Int) ≤ (i : Int) := by omega
    by_cases u1 : u < -2048
    · have e1 : decide (u < -2048) = true := decide_eq_true u1
      have CV := Lib.hid (chkP_no (d := d) (fun h => by have h9 := h.lo i (by rw [HL.out]; exact him); have := UU.out; omega))
      go_wp2
      go_ret
      exact ⟨by rw [CV.out]; rfl, BO.out.trans ((BI.out.trans (BV.out.mono BI.out.size)).mono BO.out.size)⟩
    have e1 : decide (u < -2048) = false := decide_eq_false u1
    by_cases u2 : 66560 < u
    · have e2 : decide (66560 < u) = true := decide_eq_true u2
      have CV := Lib.hid (chkP_no (d := d) (fun h => by have h9 := h.hi i (by rw [HL.out]; exact him); have := UU.out; omega))
      go_wp2
      go_ret
      exact ⟨by rw [CV.out]; rfl, BO.out.trans ((BI.out.trans (BV.out.mono BI.out.size)).mono BO.out.size)⟩
    have e2 : decide (66560 < u) = false := decide_eq_false u2
    go_wp2
    go_roundw
    case rel =>
      refine ⟨i + 1, by omega, by go_num, fun j hj => ?_, BV.out⟩
      rcases Nat.lt_or_ge j i with h | h
      · exact AL.out j h
      · obtain rfl : j = i := by omega
        have := UU.out
        omega
    case measure => simp [intOf]; omega
end Go.Proofs.Ytibeoeooajelgaa
