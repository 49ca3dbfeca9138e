/- pyramid: PyramidTells. -/
import Derived.Test.YtibeoeooajelgaaY16
import Derived.Test.YtibeoeooajelgaaF34
namespace Go.Proofs.Ytibeoeooajelgaa
open Go.RowKit
set_option linter.unusedVariables false

set_option maxRecDepth 100000 in
set_option maxHeartbeats 32000000 in
theorem pyramidTells_walk (p : FP) (f : FD) (q : PP) (d : PD) (r : RC) (D : Int) (w : World) (hf : FOk w p f) (hfb : (f.nc : Int) ≤ 9223372036854775807 ∧ (f.nd : Int) ≤ 9223372036854775807 ∧ (f.ni : Int) ≤ 9223372036854775807 ∧ (f.nt : Int) ≤ 9223372036854775807) (hfr : ¬ f.Great → f.Fits) (hp : POk w q d) (hn : (d.n : Int) ≤ 9223372036854775807) :
    Calls Try.prog 6 #[.agg #[.int .i64 f.W, .int .i64 f.H, .slice p.ac f.nc p.kc, .slice p.ad f.nd p.kd, .slice p.ai f.ni p.ki, .slice p.a4 f.nt p.kt], .agg #[.slice q.A d.n q.c], .agg #[.int .i64 r.X0, .int .i64 r.Y0, .int .i64 r.X1, .int .i64 r.Y1, .int .i64 D]] w fun e w' => e = .returned (.bool true) ∧ Below w.heap.size w w' := by
  have hfit := Lib.hid hfr
  have HFb := Lib.hid hfb
  have B3 := Lib.hid (show HasBlk (((w.alloc (.cells #[.int .i64 f.W, .int .i64 f.H, .slice p.ac f.nc p.kc, .slice p.ad f.nd p.kd, .slice p.ai f.ni p.ki, .slice p.a4 f.nt p.kt] 29)).alloc (.cells #[.slice q.A d.n q.c] 51)).alloc (.cells #[.int .i64 r.X0, .int .i64 r.Y0, .int .i64 r.X1, .int .i64 r.Y1, .int .i64 D] 55)) w.heap.size 29 #[.int .i64 f.W, .int .i64 f.H, .slice p.ac f.nc p.kc, .slice p.ad f.nd p.kd, .slice p.ai f.ni p.ki, .slice p.a4 f.nt p.kt] from ((hasBlk_new w 29 #[.int .i64 f.W, .int .i64 f.H, .slice p.ac f.nc p.kc, .slice p.ad f.nd p.kd, .slice p.ai f.ni p.ki, .slice p.a4 f.nt p.kt]).alloc _).alloc _)
  have B4 := Lib.hid (show HasBlk (((w.alloc (.cells #[.int .i64 f.W, .int .i64 f.H, .slice p.ac f.nc p.kc, .slice p.ad f.nd p.kd, .slice p.ai f.ni p.ki, .slice p.a4 f.nt p.kt] 29)).alloc (.cells #[.slice q.A d.n q.c] 51)).alloc (.cells #[.int .i64 r.X0, .int .i64 r.Y0, .int .i64 r.X1, .int .i64 r.Y1, .int .i64 D] 55)) (w.heap.size + 1) 51 #[.slice q.A d.n q.c] by simpa using (hasBlk_new (w.alloc (.cells #[.int .i64 f.W, .int .i64 f.H, .slice p.ac f.nc p.kc, .slice p.ad f.nd p.kd, .slice p.ai f.ni p.ki, .slice p.a4 f.nt p.kt] 29)) 51 #[.slice q.A d.n q.c]).alloc (.cells #[.int .i64 r.X0, .int .i64 r.Y0, .int .i64 r.X1, .int .i64 r.Y1, .int .i64 D] 55))
  have B5 := Lib.hid (show HasBlk (((w.alloc (.cells #[.int .i64 f.W, .int .i64 f.H, .slice p.ac f.nc p.kc, .slice p.ad f.nd p.kd, .slice p.ai f.ni p.ki, .slice p.a4 f.nt p.kt] 29)).alloc (.cells #[.slice q.A d.n q.c] 51)).alloc (.cells #[.int .i64 r.X0, .int .i64 r.Y0, .int .i64 r.X1, .int .i64 r.Y1, .int .i64 D] 55)) (w.heap.size + 1 + 1) 55 #[.int .i64 r.X0, .int .i64 r.Y0, .int .i64 r.X1, .int .i64 r.Y1, .int .i64 D] by simpa using hasBlk_new ((w.alloc (.cells #[.int .i64 f.W, .int .i64 f.H, .slice p.ac f.nc p.kc, .slice p.ad f.nd p.kd, .slice p.ai f.ni p.ki, .slice p.a4 f.nt p.kt] 29)).alloc (.cells #[.slice q.A d.n q.c] 51)) 55 #[.int .i64 r.X0, .int .i64 r.Y0, .int .i64 r.X1, .int .i64 r.Y1, .int .i64 D])
  have HB := Lib.hid (show Below w.heap.size w (((w.alloc (.cells #[.int .i64 f.W, .int .i64 f.H, .slice p.ac f.nc p.kc, .slice p.ad f.nd p.kd, .slice p.ai f.ni p.ki, .slice p.a4 f.nt p.kt] 29)).alloc (.cells #[.slice q.A d.n q.c] 51)).alloc (.cells #[.int .i64 r.X0, .int .i64 r.Y0, .int .i64 r.X1, .int .i64 r.Y1, .int .i64 D] 55)) by
    repeat' (first | exact Below.refl _ _ | refine Below.alloc ?_ (by first | omega | (simp; done) | (simp; omega)) _))
  have OF := Lib.hid (hf.below HB.out)
  have OP := Lib.hid (hp.below HB.out)
  have HFw := Lib.hid hf
  have HPw := Lib.hid hp
  clear hf hp hfr hfb
  go_enter Try.func6, Try.ntmps6
  go_upto_region 1 with fail
  generalize (((w.alloc (.cells #[.int .i64 f.W, .int .i64 f.H, .slice p.ac f.nc p.kc, .slice p.ad f.nd p.kd, .slice p.ai f.ni p.ki, .slice p.a4 f.nt p.kt] 29)).alloc (.cells #[.slice q.A d.n q.c] 51)).alloc (.cells #[.int .i64 r.X0, .int .i64 r.Y0, .int .i64 r.X1, .int .i64 r.Y1, .int .i64 D] 55)) = v0 at *
  have b3_0 := B3.out.cell 0
  have b3_1 := B3.out.cell 1
  have b3_2 := B3.out.cell 2
  have b3_3 := B3.out.cell 3
  have b3_4 := B3.out.cell 4
  have b3_5 := B3.out.cell 5
  have b3_z := B3.out.lt
  simp at b3_0 b3_1 b3_2 b3_3 b3_4 b3_5
  have KX := Lib.hid (great_any p f v0)
  go_wp2_with fail
  refine KX.out.mono ?_
  rintro e v1 ⟨⟨b, rfl, hb⟩, bel⟩
  clear KX
  clear b3_0 b3_1 b3_2 b3_3 b3_4 b3_5 b3_z
  have B3' := Lib.hid (B3.out.below (bel))
  have B4' := Lib.hid (B4.out.below (bel))
  have B5' := Lib.hid (B5.out.below (bel))
  have OF' := Lib.hid (OF.out.below (bel))
  have OP' := Lib.hid (OP.out.below (bel))
  have HB' := Lib.hid (HB.out.trans ((bel).mono HB.out.size))
  clear B3 B4 B5 OF OP HB
  have B3 := Lib.hid B3'.out
  have B4 := Lib.hid B4'.out
  have B5 := Lib.hid B5'.out
  have OF := Lib.hid OF'.out
  have OP := Lib.hid OP'.out
  have HB := Lib.hid HB'.out
  clear B3' B4' B5' OF' OP' HB'
  clear bel
  cases b
  rotate_left
  · clear hb
    go_wp2
    go_ret
    exact ⟨rfl, HB.out⟩
  have NG := Lib.hid (show ¬ f.Great from fun h => by have := hb.2 h; cases this)
  clear hb
  have b4_0 := B4.out.cell 0
  have b4_z := B4.out.lt
  simp at b4_0
  have KX := Lib.hid (pgreat_any d q hn v1 OP.out)
  go_wp2_with fail
  refine KX.out.mono ?_
  rintro e v2 ⟨⟨b, rfl, hb⟩, bel⟩
  clear KX
  clear b4_0 b4_z
  have B3' := Lib.hid (B3.out.below (bel))
  have B4' := Lib.hid (B4.out.below (bel))
  have B5' := Lib.hid (B5.out.below (bel))
  have OF' := Lib.hid (OF.out.below (bel))
  have OP' := Lib.hid (OP.out.below (bel))
  have HB' := Lib.hid (HB.out.trans ((bel).mono HB.out.size))
  clear B3 B4 B5 OF OP HB
  have B3 := Lib.hid B3'.out
  have B4 := Lib.hid B4'.out
  have B5 := Lib.hid B5'.out
  have OF := Lib.hid OF'.out
  have OP := Lib.hid OP'.out
  have HB := Lib.hid HB'.out
  clear B3' B4' B5' OF' OP' HB'
  clear bel
  cases b
  rotate_left
  · clear hb
    go_wp2
    go_ret
    exact ⟨rfl, HB.out⟩
  have NP := Lib.hid (show ¬ d.Great from fun h => by have := hb.2 h; cases this)
  clear hb
  have FT := Lib.hid (hfit.out NG.out)
  have Sm := Lib.hid (PD.Sm.of NP.out)
  go_upto_region 3 with fail
  go_cut [7, 8] from 29 to 32 (fun s7 s8 wx => ∃ x7 x8 q7 q8, s7 = .pointer (some ⟨x7, 0, none⟩) ∧ s8 = .pointer (some ⟨x8, 0, none⟩) ∧ HasBlk wx x7 29 #[.int .i64 f.W, .int .i64 f.H, .slice q7.ac f.nc q7.kc, .slice q7.ad f.nd q7.kd, .slice q7.ai f.ni q7.ki, .slice q7.a4 f.nt q7.kt] ∧ HasBlk wx x8 51 #[.slice q8.A d.n q8.c] ∧ FOk wx q7 f ∧ POk wx q8 d ∧ HasBlk wx w.heap.size 29 #[.int .i64 f.W, .int .i64 f.H, .slice p.ac f.nc p.kc, .slice p.ad f.nd p.kd, .slice p.ai f.ni p.ki, .slice p.a4 f.nt p.kt] ∧ HasBlk wx (w.heap.size + 1) 51 #[.slice q.A d.n q.c] ∧ HasBlk wx (w.heap.size + 1 + 1) 55 #[.int .i64 r.X0, .int .i64 r.Y0, .int .i64 r.X1, .int .i64 r.Y1, .int .i64 D] ∧ Below w.heap.size w wx)
  case first =>
    have bd := (Below.refl v2.heap.size v2).drew
    have B3' := Lib.hid (B3.out.below (bd))
    have B4' := Lib.hid (B4.out.below (bd))
    have B5' := Lib.hid (B5.out.below (bd))
    have OF' := Lib.hid (OF.out.below (bd))
    have OP' := Lib.hid (OP.out.below (bd))
    have HB' := Lib.hid (HB.out.trans ((bd).mono HB.out.size))
    clear B3 B4 B5 OF OP HB
    have B3 := Lib.hid B3'.out
    have B4 := Lib.hid B4'.out
    have B5 := Lib.hid B5'.out
    have OF := Lib.hid OF'.out
    have OP := Lib.hid OP'.out
    have HB := Lib.hid HB'.out
    clear B3' B4' B5' OF' OP' HB'
    clear bd
    have HS := Lib.hid (show (fun Wo => HasBlk Wo w.heap.size 29 #[.int .i64 f.W, .int .i64 f.H, .slice p.ac f.nc p.kc, .slice p.ad f.nd p.kd, .slice p.ai f.ni p.ki, .slice p.a4 f.nt p.kt] ∧ HasBlk Wo (w.heap.size + 1) 51 #[.slice q.A d.n q.c]) v2.drew from ⟨B3.out, B4.out⟩)
    refine wp_region_E (fun Wo => HasBlk Wo w.heap.size 29 #[.int .i64 f.W, .int .i64 f.H, .slice p.ac f.nc p.kc, .slice p.ad f.nd p.kd, .slice p.ai f.ni p.ki, .slice p.a4 f.nt p.kt] ∧ HasBlk Wo (w.heap.size + 1) 51 #[.slice q.A d.n q.c]) 99 (by kernel_rfl) ?_
    generalize gwd : v2.drew = v3 at *
    clear gwd
    refine wpAnyE_takeA (i := 0) (v := .agg #[.int .i64 f.W, .int .i64 f.H, .slice p.ac f.nc p.kc, .slice p.ad f.nd p.kd, .slice p.ai f.ni p.ki, .slice p.a4 f.nt p.kt]) rfl (by kernel_rfl) (fun _ _ _ h => h) (.inl ⟨by first | kernel_rfl | rfl, fun W hW => ?_⟩) HS.out ?_
    · obtain ⟨hWP, hWA⟩ := hW
      have q0 := hWP.cell 0
      have q1 := hWP.cell 1
      have q2 := hWP.cell 2
      have q3 := hWP.cell 3
      have q4 := hWP.cell 4
      have q5 := hWP.cell 5
      have r0 := hWA.cell 0
      have qz := hWP.lt
      have rz := hWA.lt
      simp at q0 q1 q2 q3 q4 q5 r0
      go_simp
    simp only [Act.put, List.setIfInBounds_toArray]
    refine wpAnyE_takeA (i := 2) (v := .agg #[.slice q.A d.n q.c]) rfl (by kernel_rfl) (fun _ _ _ h => h) (.inl ⟨by first | kernel_rfl | rfl, fun W hW => ?_⟩) HS.out ?_
    · obtain ⟨hWP, hWA⟩ := hW
      have q0 := hWP.cell 0
      have q1 := hWP.cell 1
      have q2 := hWP.cell 2
      have q3 := hWP.cell 3
      have q4 := hWP.cell 4
      have q5 := hWP.cell 5
      have r0 := hWA.cell 0
      have qz := hWP.lt
      have rz := hWA.lt
      simp at q0 q1 q2 q3 q4 q5 r0
      go_simp
    simp only [Act.put]
    refine wpAnyE_three (i := 1) (j := 4) (k := 5) rfl rfl rfl (by kernel_rfl) (fun KQ HK => ?_) (fun KQ HK => ?_) (fun KQ HK => ?_)
    · have KX := Lib.hid (reftwin_any p f v3 OF.out FT.out)
      go_wp2_with fail
      refine KX.out.mono ?_
      rintro e v4 ⟨⟨q7, rfl, hown⟩, bel⟩
      have O7 := Lib.hid (hown.base HB.out.size)
      clear KX hown HS
      have B3' := Lib.hid (B3.out.below (bel))
      have B4' := Lib.hid (B4.out.below (bel))
      have B5' := Lib.hid (B5.out.below (bel))
      have OF' := Lib.hid (OF.out.below (bel))
      have OP' := Lib.hid (OP.out.below (bel))
      have HB' := Lib.hid (HB.out.trans ((bel).mono HB.out.size))
      clear B3 B4 B5 OF OP HB
      have B3 := Lib.hid B3'.out
      have B4 := Lib.hid B4'.out
      have B5 := Lib.hid B5'.out
      have OF := Lib.hid OF'.out
      have OP := Lib.hid OP'.out
      have HB := Lib.hid HB'.out
      clear B3' B4' B5' OF' OP' HB'
      clear bel
      have HS := Lib.hid (show (fun Wo => HasBlk Wo w.heap.size 29 #[.int .i64 f.W, .int .i64 f.H, .slice p.ac f.nc p.kc, .slice p.ad f.nd p.kd, .slice p.ai f.ni p.ki, .slice p.a4 f.nt p.kt] ∧ HasBlk Wo (w.heap.size + 1) 51 #[.slice q.A d.n q.c]) v4 from ⟨B3.out, B4.out⟩)
      go_wp2
      refine HK _ _ (fun _ => HS.out) ?_
      clear HK
      refine wpAnyE_three (i := 3) (j := 4) (k := 5) rfl rfl rfl (by kernel_rfl) (fun KQ HK => ?_) (fun KQ HK => ?_) (fun KQ HK => ?_)
      · have KX := Lib.hid (ptwin_any d q NP.out v4 OP.out)
        go_wp2_with fail
        refine KX.out.mono ?_
        rintro e v5 ⟨⟨q8, rfl, hown⟩, bel⟩
        have O8 := Lib.hid (hown.base HB.out.size)
        clear KX hown HS
        have B3' := Lib.hid (B3.out.below (bel))
        have B4' := Lib.hid (B4.out.below (bel))
        have B5' := Lib.hid (B5.out.below (bel))
        have OF' := Lib.hid (OF.out.below (bel))
        have OP' := Lib.hid (OP.out.below (bel))
        have O7' := Lib.hid (O7.out.below (bel))
        have HB' := Lib.hid (HB.out.trans ((bel).mono HB.out.size))
        clear B3 B4 B5 OF OP O7 HB
        have B3 := Lib.hid B3'.out
        have B4 := Lib.hid B4'.out
        have B5 := Lib.hid B5'.out
        have OF := Lib.hid OF'.out
        have OP := Lib.hid OP'.out
        have O7 := Lib.hid O7'.out
        have HB := Lib.hid HB'.out
        clear B3' B4' B5' OF' OP' O7' HB'
        clear bel
        have HS := Lib.hid (show (fun Wo => HasBlk Wo w.heap.size 29 #[.int .i64 f.W, .int .i64 f.H, .slice p.ac f.nc p.kc, .slice p.ad f.nd p.kd, .slice p.ai f.ni p.ki, .slice p.a4 f.nt p.kt] ∧ HasBlk Wo (w.heap.size + 1) 51 #[.slice q.A d.n q.c]) v5 from ⟨B3.out, B4.out⟩)
        go_wp2
        refine HK _ _ (fun _ => HS.out) ?_
        clear HK
        refine wpAnyE_two (i := 4) (j := 5) rfl rfl (by kernel_rfl) (fun KQ HK => ?_) (fun KQ HK => ?_)
        · go_wp2
          have hbel := (Below.refl v5.heap.size v5).alloc (Nat.le_refl _) (.cells #[.int .i64 0, .int .i64 0, .slice none 0 0, .slice none 0 0, .slice none 0 0, .slice none 0 0] 29)
          have Zx7 := Lib.hid (hasBlk_new v5 29 #[.int .i64 0, .int .i64 0, .slice none 0 0, .slice none 0 0, .slice none 0 0, .slice none 0 0])
          clear HS
          have Lx7 := Lib.hid (show w.heap.size ≤ v5.heap.size ∧ (w.heap.size + 1 + 1) < v5.heap.size from ⟨HB.out.size, B5.out.lt⟩)
          have B3' := Lib.hid (B3.out.below (hbel))
          have B4' := Lib.hid (B4.out.below (hbel))
          have B5' := Lib.hid (B5.out.below (hbel))
          have OF' := Lib.hid (OF.out.below (hbel))
          have OP' := Lib.hid (OP.out.below (hbel))
          have O7' := Lib.hid (O7.out.below (hbel))
          have O8' := Lib.hid (O8.out.below (hbel))
          have HB' := Lib.hid (HB.out.trans ((hbel).mono HB.out.size))
          clear B3 B4 B5 OF OP O7 O8 HB
          have B3 := Lib.hid B3'.out
          have B4 := Lib.hid B4'.out
          have B5 := Lib.hid B5'.out
          have OF := Lib.hid OF'.out
          have OP := Lib.hid OP'.out
          have O7 := Lib.hid O7'.out
          have O8 := Lib.hid O8'.out
          have HB := Lib.hid HB'.out
          clear B3' B4' B5' OF' OP' O7' O8' HB'
          have HS := Lib.hid (show (fun Wo => HasBlk Wo w.heap.size 29 #[.int .i64 f.W, .int .i64 f.H, .slice p.ac f.nc p.kc, .slice p.ad f.nd p.kd, .slice p.ai f.ni p.ki, .slice p.a4 f.nt p.kt] ∧ HasBlk Wo (w.heap.size + 1) 51 #[.slice q.A d.n q.c]) (v5.alloc (.cells #[.int .i64 0, .int .i64 0, .slice none 0 0, .slice none 0 0, .slice none 0 0, .slice none 0 0] 29)) from ⟨B3.out, B4.out⟩)
          clear hbel
          refine HK _ _ (fun _ => HS.out) ?_
          clear HK
          obtain ⟨x7, hx7⟩ : ∃ x7, x7 = v5.heap.size := ⟨_, rfl⟩
          rw [← hx7] at Zx7 Lx7 ⊢
          clear hx7
          generalize v5.alloc (.cells #[.int .i64 0, .int .i64 0, .slice none 0 0, .slice none 0 0, .slice none 0 0, .slice none 0 0] 29) = v6 at *
          refine wpAnyE_step (i := 5) rfl (by kernel_rfl) (fun KQ HK => ?_)
          go_wp2
          have hbel := (Below.refl v6.heap.size v6).alloc (Nat.le_refl _) (.cells #[.slice none 0 0] 51)
          have Zx8 := Lib.hid (hasBlk_new v6 51 #[.slice none 0 0])
          clear HS
          have Lx8 := Lib.hid (show w.heap.size ≤ v6.heap.size ∧ (w.heap.size + 1 + 1) < v6.heap.size from ⟨HB.out.size, B5.out.lt⟩)
          have hne := Zx7.out.lt
          have B3' := Lib.hid (B3.out.below (hbel))
          have B4' := Lib.hid (B4.out.below (hbel))
          have B5' := Lib.hid (B5.out.below (hbel))
          have OF' := Lib.hid (OF.out.below (hbel))
          have OP' := Lib.hid (OP.out.below (hbel))
          have O7' := Lib.hid (O7.out.below (hbel))
          have O8' := Lib.hid (O8.out.below (hbel))
          have Zx7' := Lib.hid (Zx7.out.below (hbel))
          have HB' := Lib.hid (HB.out.trans ((hbel).mono HB.out.size))
          clear B3 B4 B5 OF OP O7 O8 Zx7 HB
          have B3 := Lib.hid B3'.out
          have B4 := Lib.hid B4'.out
          have B5 := Lib.hid B5'.out
          have OF := Lib.hid OF'.out
          have OP := Lib.hid OP'.out
          have O7 := Lib.hid O7'.out
          have O8 := Lib.hid O8'.out
          have Zx7 := Lib.hid Zx7'.out
          have HB := Lib.hid HB'.out
          clear B3' B4' B5' OF' OP' O7' O8' Zx7' HB'
          have HS := Lib.hid (show (fun Wo => HasBlk Wo w.heap.size 29 #[.int .i64 f.W, .int .i64 f.H, .slice p.ac f.nc p.kc, .slice p.ad f.nd p.kd, .slice p.ai f.ni p.ki, .slice p.a4 f.nt p.kt] ∧ HasBlk Wo (w.heap.size + 1) 51 #[.slice q.A d.n q.c]) (v6.alloc (.cells #[.slice none 0 0] 51)) from ⟨B3.out, B4.out⟩)
          clear hbel
          refine HK _ _ (fun _ => HS.out) ?_
          clear HK
          obtain ⟨x8, hx8⟩ : ∃ x8, x8 = v6.heap.size := ⟨_, rfl⟩
          rw [← hx8] at Zx8 Lx8 ⊢
          rw [← hx8] at hne
          clear hx8
          generalize v6.alloc (.cells #[.slice none 0 0] 51) = v7 at *
          refine wpAnyE_step (i := 6) rfl (by kernel_rfl) (fun KQ HK => ?_)
          have z0 := Zx7.out.cell 0
          have zf0 := Zx7.out.frozen 0
          have z1 := Zx7.out.cell 1
          have zf1 := Zx7.out.frozen 1
          have z2 := Zx7.out.cell 2
          have zf2 := Zx7.out.frozen 2
          have z3 := Zx7.out.cell 3
          have zf3 := Zx7.out.frozen 3
          have z4 := Zx7.out.cell 4
          have zf4 := Zx7.out.frozen 4
          have z5 := Zx7.out.cell 5
          have zf5 := Zx7.out.frozen 5
          have zz := Zx7.out.lt
          simp at z0 z1 z2 z3 z4 z5
          go_wp2
          have hl1 := Lx7.out.1
          have hl2 := Lx7.out.2
          have Zx7n := Lib.hid (show HasBlk ((((((v7.setCell ⟨x7, 0, none⟩ (.int .i64 f.W)).setCell ⟨x7, 1, none⟩ (.int .i64 f.H)).setCell ⟨x7, 2, none⟩ (.slice q7.ac f.nc q7.kc)).setCell ⟨x7, 3, none⟩ (.slice q7.ad f.nd q7.kd)).setCell ⟨x7, 4, none⟩ (.slice q7.ai f.ni q7.ki)).setCell ⟨x7, 5, none⟩ (.slice q7.a4 f.nt q7.kt)) x7 29 #[.int .i64 f.W, .int .i64 f.H, .slice q7.ac f.nc q7.kc, .slice q7.ad f.nd q7.kd, .slice q7.ai f.ni q7.ki, .slice q7.a4 f.nt q7.kt] by simpa using ((((((((((((Zx7.out).set 0 (.int .i64 f.W))).set 1 (.int .i64 f.H))).set 2 (.slice q7.ac f.nc q7.kc))).set 3 (.slice q7.ad f.nd q7.kd))).set 4 (.slice q7.ai f.ni q7.ki))).set 5 (.slice q7.a4 f.nt q7.kt)))
          have Zx8n := Lib.hid (show HasBlk ((((((v7.setCell ⟨x7, 0, none⟩ (.int .i64 f.W)).setCell ⟨x7, 1, none⟩ (.int .i64 f.H)).setCell ⟨x7, 2, none⟩ (.slice q7.ac f.nc q7.kc)).setCell ⟨x7, 3, none⟩ (.slice q7.ad f.nd q7.kd)).setCell ⟨x7, 4, none⟩ (.slice q7.ai f.ni q7.ki)).setCell ⟨x7, 5, none⟩ (.slice q7.a4 f.nt q7.kt)) x8 51 _ from ((((((Zx8.out.far (p := ⟨x7, 0, none⟩) (by simp; omega) (.int .i64 f.W)).far (p := ⟨x7, 1, none⟩) (by simp; omega) (.int .i64 f.H)).far (p := ⟨x7, 2, none⟩) (by simp; omega) (.slice q7.ac f.nc q7.kc)).far (p := ⟨x7, 3, none⟩) (by simp; omega) (.slice q7.ad f.nd q7.kd)).far (p := ⟨x7, 4, none⟩) (by simp; omega) (.slice q7.ai f.ni q7.ki)).far (p := ⟨x7, 5, none⟩) (by simp; omega) (.slice q7.a4 f.nt q7.kt)))
          have B3n := Lib.hid (show HasBlk ((((((v7.setCell ⟨x7, 0, none⟩ (.int .i64 f.W)).setCell ⟨x7, 1, none⟩ (.int .i64 f.H)).setCell ⟨x7, 2, none⟩ (.slice q7.ac f.nc q7.kc)).setCell ⟨x7, 3, none⟩ (.slice q7.ad f.nd q7.kd)).setCell ⟨x7, 4, none⟩ (.slice q7.ai f.ni q7.ki)).setCell ⟨x7, 5, none⟩ (.slice q7.a4 f.nt q7.kt)) w.heap.size 29 _ from ((((((B3.out.far (p := ⟨x7, 0, none⟩) (by simp; omega) (.int .i64 f.W)).far (p := ⟨x7, 1, none⟩) (by simp; omega) (.int .i64 f.H)).far (p := ⟨x7, 2, none⟩) (by simp; omega) (.slice q7.ac f.nc q7.kc)).far (p := ⟨x7, 3, none⟩) (by simp; omega) (.slice q7.ad f.nd q7.kd)).far (p := ⟨x7, 4, none⟩) (by simp; omega) (.slice q7.ai f.ni q7.ki)).far (p := ⟨x7, 5, none⟩) (by simp; omega) (.slice q7.a4 f.nt q7.kt)))
          have B4n := Lib.hid (show HasBlk ((((((v7.setCell ⟨x7, 0, none⟩ (.int .i64 f.W)).setCell ⟨x7, 1, none⟩ (.int .i64 f.H)).setCell ⟨x7, 2, none⟩ (.slice q7.ac f.nc q7.kc)).setCell ⟨x7, 3, none⟩ (.slice q7.ad f.nd q7.kd)).setCell ⟨x7, 4, none⟩ (.slice q7.ai f.ni q7.ki)).setCell ⟨x7, 5, none⟩ (.slice q7.a4 f.nt q7.kt)) (w.heap.size + 1) 51 _ from ((((((B4.out.far (p := ⟨x7, 0, none⟩) (by simp; omega) (.int .i64 f.W)).far (p := ⟨x7, 1, none⟩) (by simp; omega) (.int .i64 f.H)).far (p := ⟨x7, 2, none⟩) (by simp; omega) (.slice q7.ac f.nc q7.kc)).far (p := ⟨x7, 3, none⟩) (by simp; omega) (.slice q7.ad f.nd q7.kd)).far (p := ⟨x7, 4, none⟩) (by simp; omega) (.slice q7.ai f.ni q7.ki)).far (p := ⟨x7, 5, none⟩) (by simp; omega) (.slice q7.a4 f.nt q7.kt)))
          have B5n := Lib.hid (show HasBlk ((((((v7.setCell ⟨x7, 0, none⟩ (.int .i64 f.W)).setCell ⟨x7, 1, none⟩ (.int .i64 f.H)).setCell ⟨x7, 2, none⟩ (.slice q7.ac f.nc q7.kc)).setCell ⟨x7, 3, none⟩ (.slice q7.ad f.nd q7.kd)).setCell ⟨x7, 4, none⟩ (.slice q7.ai f.ni q7.ki)).setCell ⟨x7, 5, none⟩ (.slice q7.a4 f.nt q7.kt)) (w.heap.size + 1 + 1) 55 _ from ((((((B5.out.far (p := ⟨x7, 0, none⟩) (by simp; omega) (.int .i64 f.W)).far (p := ⟨x7, 1, none⟩) (by simp; omega) (.int .i64 f.H)).far (p := ⟨x7, 2, none⟩) (by simp; omega) (.slice q7.ac f.nc q7.kc)).far (p := ⟨x7, 3, none⟩) (by simp; omega) (.slice q7.ad f.nd q7.kd)).far (p := ⟨x7, 4, none⟩) (by simp; omega) (.slice q7.ai f.ni q7.ki)).far (p := ⟨x7, 5, none⟩) (by simp; omega) (.slice q7.a4 f.nt q7.kt)))
          have HBn := Lib.hid (show Below w.heap.size w ((((((v7.setCell ⟨x7, 0, none⟩ (.int .i64 f.W)).setCell ⟨x7, 1, none⟩ (.int .i64 f.H)).setCell ⟨x7, 2, none⟩ (.slice q7.ac f.nc q7.kc)).setCell ⟨x7, 3, none⟩ (.slice q7.ad f.nd q7.kd)).setCell ⟨x7, 4, none⟩ (.slice q7.ai f.ni q7.ki)).setCell ⟨x7, 5, none⟩ (.slice q7.a4 f.nt q7.kt)) from (Below.setCell (p := ⟨x7, 5, none⟩) (Below.setCell (p := ⟨x7, 4, none⟩) (Below.setCell (p := ⟨x7, 3, none⟩) (Below.setCell (p := ⟨x7, 2, none⟩) (Below.setCell (p := ⟨x7, 1, none⟩) (Below.setCell (p := ⟨x7, 0, none⟩) HB.out (hl1) (.int .i64 f.W)) (hl1) (.int .i64 f.H)) (hl1) (.slice q7.ac f.nc q7.kc)) (hl1) (.slice q7.ad f.nd q7.kd)) (hl1) (.slice q7.ai f.ni q7.ki)) (hl1) (.slice q7.a4 f.nt q7.kt)))
          have O7n := Lib.hid (show FOwn w.heap.size ((((((v7.setCell ⟨x7, 0, none⟩ (.int .i64 f.W)).setCell ⟨x7, 1, none⟩ (.int .i64 f.H)).setCell ⟨x7, 2, none⟩ (.slice q7.ac f.nc q7.kc)).setCell ⟨x7, 3, none⟩ (.slice q7.ad f.nd q7.kd)).setCell ⟨x7, 4, none⟩ (.slice q7.ai f.ni q7.ki)).setCell ⟨x7, 5, none⟩ (.slice q7.a4 f.nt q7.kt)) q7 f from ((((((O7.out.pset (j := 0) Zx7.out (by decide) (by decide) (.int .i64 f.W)).pset (j := 1) (Zx7.out.set 0 (.int .i64 f.W)) (by decide) (by decide) (.int .i64 f.H)).pset (j := 2) ((Zx7.out.set 0 (.int .i64 f.W)).set 1 (.int .i64 f.H)) (by decide) (by decide) (.slice q7.ac f.nc q7.kc)).pset (j := 3) (((Zx7.out.set 0 (.int .i64 f.W)).set 1 (.int .i64 f.H)).set 2 (.slice q7.ac f.nc q7.kc)) (by decide) (by decide) (.slice q7.ad f.nd q7.kd)).pset (j := 4) ((((Zx7.out.set 0 (.int .i64 f.W)).set 1 (.int .i64 f.H)).set 2 (.slice q7.ac f.nc q7.kc)).set 3 (.slice q7.ad f.nd q7.kd)) (by decide) (by decide) (.slice q7.ai f.ni q7.ki)).pset (j := 5) (((((Zx7.out.set 0 (.int .i64 f.W)).set 1 (.int .i64 f.H)).set 2 (.slice q7.ac f.nc q7.kc)).set 3 (.slice q7.ad f.nd q7.kd)).set 4 (.slice q7.ai f.ni q7.ki)) (by decide) (by decide) (.slice q7.a4 f.nt q7.kt)))
          have O8n := Lib.hid (show POwn w.heap.size ((((((v7.setCell ⟨x7, 0, none⟩ (.int .i64 f.W)).setCell ⟨x7, 1, none⟩ (.int .i64 f.H)).setCell ⟨x7, 2, none⟩ (.slice q7.ac f.nc q7.kc)).setCell ⟨x7, 3, none⟩ (.slice q7.ad f.nd q7.kd)).setCell ⟨x7, 4, none⟩ (.slice q7.ai f.ni q7.ki)).setCell ⟨x7, 5, none⟩ (.slice q7.a4 f.nt q7.kt)) q8 d from ((((((O8.out.pset (j := 0) Zx7.out (by decide) (by decide) (.int .i64 f.W)).pset (j := 1) (Zx7.out.set 0 (.int .i64 f.W)) (by decide) (by decide) (.int .i64 f.H)).pset (j := 2) ((Zx7.out.set 0 (.int .i64 f.W)).set 1 (.int .i64 f.H)) (by decide) (by decide) (.slice q7.ac f.nc q7.kc)).pset (j := 3) (((Zx7.out.set 0 (.int .i64 f.W)).set 1 (.int .i64 f.H)).set 2 (.slice q7.ac f.nc q7.kc)) (by decide) (by decide) (.slice q7.ad f.nd q7.kd)).pset (j := 4) ((((Zx7.out.set 0 (.int .i64 f.W)).set 1 (.int .i64 f.H)).set 2 (.slice q7.ac f.nc q7.kc)).set 3 (.slice q7.ad f.nd q7.kd)) (by decide) (by decide) (.slice q7.ai f.ni q7.ki)).pset (j := 5) (((((Zx7.out.set 0 (.int .i64 f.W)).set 1 (.int .i64 f.H)).set 2 (.slice q7.ac f.nc q7.kc)).set 3 (.slice q7.ad f.nd q7.kd)).set 4 (.slice q7.ai f.ni q7.ki)) (by decide) (by decide) (.slice q7.a4 f.nt q7.kt)))
          clear Zx7 Zx8 B3 B4 B5 HB O7 O8 HS z0 zf0 z1 zf1 z2 zf2 z3 zf3 z4 zf4 z5 zf5 zz hl1 hl2
          have Zx7 := Lib.hid Zx7n.out
          have Zx8 := Lib.hid Zx8n.out
          have B3 := Lib.hid B3n.out
          have B4 := Lib.hid B4n.out
          have B5 := Lib.hid B5n.out
          have HB := Lib.hid HBn.out
          have O7 := Lib.hid O7n.out
          have O8 := Lib.hid O8n.out
          clear Zx7n Zx8n B3n B4n B5n HBn O7n O8n
          have HS := Lib.hid (show (fun Wo => HasBlk Wo w.heap.size 29 #[.int .i64 f.W, .int .i64 f.H, .slice p.ac f.nc p.kc, .slice p.ad f.nd p.kd, .slice p.ai f.ni p.ki, .slice p.a4 f.nt p.kt] ∧ HasBlk Wo (w.heap.size + 1) 51 #[.slice q.A d.n q.c]) ((((((v7.setCell ⟨x7, 0, none⟩ (.int .i64 f.W)).setCell ⟨x7, 1, none⟩ (.int .i64 f.H)).setCell ⟨x7, 2, none⟩ (.slice q7.ac f.nc q7.kc)).setCell ⟨x7, 3, none⟩ (.slice q7.ad f.nd q7.kd)).setCell ⟨x7, 4, none⟩ (.slice q7.ai f.ni q7.ki)).setCell ⟨x7, 5, none⟩ (.slice q7.a4 f.nt q7.kt)) from ⟨B3.out, B4.out⟩)
          refine HK _ _ (fun _ => HS.out) ?_
          clear HK
          generalize ((((((v7.setCell ⟨x7, 0, none⟩ (.int .i64 f.W)).setCell ⟨x7, 1, none⟩ (.int .i64 f.H)).setCell ⟨x7, 2, none⟩ (.slice q7.ac f.nc q7.kc)).setCell ⟨x7, 3, none⟩ (.slice q7.ad f.nd q7.kd)).setCell ⟨x7, 4, none⟩ (.slice q7.ai f.ni q7.ki)).setCell ⟨x7, 5, none⟩ (.slice q7.a4 f.nt q7.kt)) = va at *
          refine wpAnyE_step (i := 7) rfl (by kernel_rfl) (fun KQ HK => ?_)
          have z0 := Zx8.out.cell 0
          have zf0 := Zx8.out.frozen 0
          have zz := Zx8.out.lt
          simp at z0
          go_wp2
          have hl1 := Lx8.out.1
          have hl2 := Lx8.out.2
          have Zx8n := Lib.hid (show HasBlk (va.setCell ⟨x8, 0, none⟩ (.slice q8.A d.n q8.c)) x8 51 #[.slice q8.A d.n q8.c] by simpa using ((Zx8.out).set 0 (.slice q8.A d.n q8.c)))
          have Zx7n := Lib.hid (show HasBlk (va.setCell ⟨x8, 0, none⟩ (.slice q8.A d.n q8.c)) x7 29 _ from (Zx7.out.far (p := ⟨x8, 0, none⟩) (by simp; omega) (.slice q8.A d.n q8.c)))
          have B3n := Lib.hid (show HasBlk (va.setCell ⟨x8, 0, none⟩ (.slice q8.A d.n q8.c)) w.heap.size 29 _ from (B3.out.far (p := ⟨x8, 0, none⟩) (by simp; omega) (.slice q8.A d.n q8.c)))
          have B4n := Lib.hid (show HasBlk (va.setCell ⟨x8, 0, none⟩ (.slice q8.A d.n q8.c)) (w.heap.size + 1) 51 _ from (B4.out.far (p := ⟨x8, 0, none⟩) (by simp; omega) (.slice q8.A d.n q8.c)))
          have B5n := Lib.hid (show HasBlk (va.setCell ⟨x8, 0, none⟩ (.slice q8.A d.n q8.c)) (w.heap.size + 1 + 1) 55 _ from (B5.out.far (p := ⟨x8, 0, none⟩) (by simp; omega) (.slice q8.A d.n q8.c)))
          have HBn := Lib.hid (show Below w.heap.size w (va.setCell ⟨x8, 0, none⟩ (.slice q8.A d.n q8.c)) from (Below.setCell (p := ⟨x8, 0, none⟩) HB.out (hl1) (.slice q8.A d.n q8.c)))
          have O7n := Lib.hid (show FOwn w.heap.size (va.setCell ⟨x8, 0, none⟩ (.slice q8.A d.n q8.c)) q7 f from (O7.out.pset (j := 0) Zx8.out (by decide) (by decide) (.slice q8.A d.n q8.c)))
          have O8n := Lib.hid (show POwn w.heap.size (va.setCell ⟨x8, 0, none⟩ (.slice q8.A d.n q8.c)) q8 d from (O8.out.pset (j := 0) Zx8.out (by decide) (by decide) (.slice q8.A d.n q8.c)))
          clear Zx8 Zx7 B3 B4 B5 HB O7 O8 HS z0 zf0 zz hl1 hl2
          have Zx8 := Lib.hid Zx8n.out
          have Zx7 := Lib.hid Zx7n.out
          have B3 := Lib.hid B3n.out
          have B4 := Lib.hid B4n.out
          have B5 := Lib.hid B5n.out
          have HB := Lib.hid HBn.out
          have O7 := Lib.hid O7n.out
          have O8 := Lib.hid O8n.out
          clear Zx8n Zx7n B3n B4n B5n HBn O7n O8n
          have HS := Lib.hid (show (fun Wo => HasBlk Wo w.heap.size 29 #[.int .i64 f.W, .int .i64 f.H, .slice p.ac f.nc p.kc, .slice p.ad f.nd p.kd, .slice p.ai f.ni p.ki, .slice p.a4 f.nt p.kt] ∧ HasBlk Wo (w.heap.size + 1) 51 #[.slice q.A d.n q.c]) (va.setCell ⟨x8, 0, none⟩ (.slice q8.A d.n q8.c)) from ⟨B3.out, B4.out⟩)
          refine HK _ _ (fun _ => HS.out) ?_
          clear HK
          generalize (va.setCell ⟨x8, 0, none⟩ (.slice q8.A d.n q8.c)) = vb at *
          refine wpAnyE_done (by kernel_rfl) ?_
          go_wp2_with fail
          go_meet
          exact ⟨x7, x8, q7, q8, rfl, rfl, Zx7.out, Zx8.out, O7.out.ok, O8.out.ok, B3.out, B4.out, B5.out, HB.out⟩
        · go_wp2
          have hbel := (Below.refl v5.heap.size v5).alloc (Nat.le_refl _) (.cells #[.slice none 0 0] 51)
          have Zx8 := Lib.hid (hasBlk_new v5 51 #[.slice none 0 0])
          clear HS
          have Lx8 := Lib.hid (show w.heap.size ≤ v5.heap.size ∧ (w.heap.size + 1 + 1) < v5.heap.size from ⟨HB.out.size, B5.out.lt⟩)
          have B3' := Lib.hid (B3.out.below (hbel))
          have B4' := Lib.hid (B4.out.below (hbel))
          have B5' := Lib.hid (B5.out.below (hbel))
          have OF' := Lib.hid (OF.out.below (hbel))
          have OP' := Lib.hid (OP.out.below (hbel))
          have O7' := Lib.hid (O7.out.below (hbel))
          have O8' := Lib.hid (O8.out.below (hbel))
          have HB' := Lib.hid (HB.out.trans ((hbel).mono HB.out.size))
          clear B3 B4 B5 OF OP O7 O8 HB
          have B3 := Lib.hid B3'.out
          have B4 := Lib.hid B4'.out
          have B5 := Lib.hid B5'.out
          have OF := Lib.hid OF'.out
          have OP := Lib.hid OP'.out
          have O7 := Lib.hid O7'.out
          have O8 := Lib.hid O8'.out
          have HB := Lib.hid HB'.out
          clear B3' B4' B5' OF' OP' O7' O8' HB'
          have HS := Lib.hid (show (fun Wo => HasBlk Wo w.heap.size 29 #[.int .i64 f.W, .int .i64 f.H, .slice p.ac f.nc p.kc, .slice p.ad f.nd p.kd, .slice p.ai f.ni p.ki, .slice p.a4 f.nt p.kt] ∧ HasBlk Wo (w.heap.size + 1) 51 #[.slice q.A d.n q.c]) (v5.alloc (.cells #[.slice none 0 0] 51)) from ⟨B3.out, B4.out⟩)
          clear hbel
          refine HK _ _ (fun _ => HS.out) ?_
          clear HK
          obtain ⟨x8, hx8⟩ : ∃ x8, x8 = v5.heap.size := ⟨_, rfl⟩
          rw [← hx8] at Zx8 Lx8 ⊢
          clear hx8
          generalize v5.alloc (.cells #[.slice none 0 0] 51) = v6 at *
          refine wpAnyE_step (i := 4) rfl (by kernel_rfl) (fun KQ HK => ?_)
          go_wp2
          have hbel := (Below.refl v6.heap.size v6).alloc (Nat.le_refl _) (.cells #[.int .i64 0, .int .i64 0, .slice none 0 0, .slice none 0 0, .slice none 0 0, .slice none 0 0] 29)
          have Zx7 := Lib.hid (hasBlk_new v6 29 #[.int .i64 0, .int .i64 0, .slice none 0 0, .slice none 0 0, .slice none 0 0, .slice none 0 0])
          clear HS
          have Lx7 := Lib.hid (show w.heap.size ≤ v6.heap.size ∧ (w.heap.size + 1 + 1) < v6.heap.size from ⟨HB.out.size, B5.out.lt⟩)
          have hne := Zx8.out.lt
          have B3' := Lib.hid (B3.out.below (hbel))
          have B4' := Lib.hid (B4.out.below (hbel))
          have B5' := Lib.hid (B5.out.below (hbel))
          have OF' := Lib.hid (OF.out.below (hbel))
          have OP' := Lib.hid (OP.out.below (hbel))
          have O7' := Lib.hid (O7.out.below (hbel))
          have O8' := Lib.hid (O8.out.below (hbel))
          have Zx8' := Lib.hid (Zx8.out.below (hbel))
          have HB' := Lib.hid (HB.out.trans ((hbel).mono HB.out.size))
          clear B3 B4 B5 OF OP O7 O8 Zx8 HB
          have B3 := Lib.hid B3'.out
          have B4 := Lib.hid B4'.out
          have B5 := Lib.hid B5'.out
          have OF := Lib.hid OF'.out
          have OP := Lib.hid OP'.out
          have O7 := Lib.hid O7'.out
          have O8 := Lib.hid O8'.out
          have Zx8 := Lib.hid Zx8'.out
          have HB := Lib.hid HB'.out
          clear B3' B4' B5' OF' OP' O7' O8' Zx8' HB'
          have HS := Lib.hid (show (fun Wo => HasBlk Wo w.heap.size 29 #[.int .i64 f.W, .int .i64 f.H, .slice p.ac f.nc p.kc, .slice p.ad f.nd p.kd, .slice p.ai f.ni p.ki, .slice p.a4 f.nt p.kt] ∧ HasBlk Wo (w.heap.size + 1) 51 #[.slice q.A d.n q.c]) (v6.alloc (.cells #[.int .i64 0, .int .i64 0, .slice none 0 0, .slice none 0 0, .slice none 0 0, .slice none 0 0] 29)) from ⟨B3.out, B4.out⟩)
          clear hbel
          refine HK _ _ (fun _ => HS.out) ?_
          clear HK
          obtain ⟨x7, hx7⟩ : ∃ x7, x7 = v6.heap.size := ⟨_, rfl⟩
          rw [← hx7] at Zx7 Lx7 ⊢
          rw [← hx7] at hne
          clear hx7
          generalize v6.alloc (.cells #[.int .i64 0, .int .i64 0, .slice none 0 0, .slice none 0 0, .slice none 0 0, .slice none 0 0] 29) = v7 at *
          refine wpAnyE_step (i := 6) rfl (by kernel_rfl) (fun KQ HK => ?_)
          have z0 := Zx7.out.cell 0
          have zf0 := Zx7.out.frozen 0
          have z1 := Zx7.out.cell 1
          have zf1 := Zx7.out.frozen 1
          have z2 := Zx7.out.cell 2
          have zf2 := Zx7.out.frozen 2
          have z3 := Zx7.out.cell 3
          have zf3 := Zx7.out.frozen 3
          have z4 := Zx7.out.cell 4
          have zf4 := Zx7.out.frozen 4
          have z5 := Zx7.out.cell 5
          have zf5 := Zx7.out.frozen 5
          have zz := Zx7.out.lt
          simp at z0 z1 z2 z3 z4 z5
          go_wp2
          have hl1 := Lx7.out.1
          have hl2 := Lx7.out.2
          have Zx7n := Lib.hid (show HasBlk ((((((v7.setCell ⟨x7, 0, none⟩ (.int .i64 f.W)).setCell ⟨x7, 1, none⟩ (.int .i64 f.H)).setCell ⟨x7, 2, none⟩ (.slice q7.ac f.nc q7.kc)).setCell ⟨x7, 3, none⟩ (.slice q7.ad f.nd q7.kd)).setCell ⟨x7, 4, none⟩ (.slice q7.ai f.ni q7.ki)).setCell ⟨x7, 5, none⟩ (.slice q7.a4 f.nt q7.kt)) x7 29 #[.int .i64 f.W, .int .i64 f.H, .slice q7.ac f.nc q7.kc, .slice q7.ad f.nd q7.kd, .slice q7.ai f.ni q7.ki, .slice q7.a4 f.nt q7.kt] by simpa using ((((((((((((Zx7.out).set 0 (.int .i64 f.W))).set 1 (.int .i64 f.H))).set 2 (.slice q7.ac f.nc q7.kc))).set 3 (.slice q7.ad f.nd q7.kd))).set 4 (.slice q7.ai f.ni q7.ki))).set 5 (.slice q7.a4 f.nt q7.kt)))
          have Zx8n := Lib.hid (show HasBlk ((((((v7.setCell ⟨x7, 0, none⟩ (.int .i64 f.W)).setCell ⟨x7, 1, none⟩ (.int .i64 f.H)).setCell ⟨x7, 2, none⟩ (.slice q7.ac f.nc q7.kc)).setCell ⟨x7, 3, none⟩ (.slice q7.ad f.nd q7.kd)).setCell ⟨x7, 4, none⟩ (.slice q7.ai f.ni q7.ki)).setCell ⟨x7, 5, none⟩ (.slice q7.a4 f.nt q7.kt)) x8 51 _ from ((((((Zx8.out.far (p := ⟨x7, 0, none⟩) (by simp; omega) (.int .i64 f.W)).far (p := ⟨x7, 1, none⟩) (by simp; omega) (.int .i64 f.H)).far (p := ⟨x7, 2, none⟩) (by simp; omega) (.slice q7.ac f.nc q7.kc)).far (p := ⟨x7, 3, none⟩) (by simp; omega) (.slice q7.ad f.nd q7.kd)).far (p := ⟨x7, 4, none⟩) (by simp; omega) (.slice q7.ai f.ni q7.ki)).far (p := ⟨x7, 5, none⟩) (by simp; omega) (.slice q7.a4 f.nt q7.kt)))
          have B3n := Lib.hid (show HasBlk ((((((v7.setCell ⟨x7, 0, none⟩ (.int .i64 f.W)).setCell ⟨x7, 1, none⟩ (.int .i64 f.H)).setCell ⟨x7, 2, none⟩ (.slice q7.ac f.nc q7.kc)).setCell ⟨x7, 3, none⟩ (.slice q7.ad f.nd q7.kd)).setCell ⟨x7, 4, none⟩ (.slice q7.ai f.ni q7.ki)).setCell ⟨x7, 5, none⟩ (.slice q7.a4 f.nt q7.kt)) w.heap.size 29 _ from ((((((B3.out.far (p := ⟨x7, 0, none⟩) (by simp; omega) (.int .i64 f.W)).far (p := ⟨x7, 1, none⟩) (by simp; omega) (.int .i64 f.H)).far (p := ⟨x7, 2, none⟩) (by simp; omega) (.slice q7.ac f.nc q7.kc)).far (p := ⟨x7, 3, none⟩) (by simp; omega) (.slice q7.ad f.nd q7.kd)).far (p := ⟨x7, 4, none⟩) (by simp; omega) (.slice q7.ai f.ni q7.ki)).far (p := ⟨x7, 5, none⟩) (by simp; omega) (.slice q7.a4 f.nt q7.kt)))
          have B4n := Lib.hid (show HasBlk ((((((v7.setCell ⟨x7, 0, none⟩ (.int .i64 f.W)).setCell ⟨x7, 1, none⟩ (.int .i64 f.H)).setCell ⟨x7, 2, none⟩ (.slice q7.ac f.nc q7.kc)).setCell ⟨x7, 3, none⟩ (.slice q7.ad f.nd q7.kd)).setCell ⟨x7, 4, none⟩ (.slice q7.ai f.ni q7.ki)).setCell ⟨x7, 5, none⟩ (.slice q7.a4 f.nt q7.kt)) (w.heap.size + 1) 51 _ from ((((((B4.out.far (p := ⟨x7, 0, none⟩) (by simp; omega) (.int .i64 f.W)).far (p := ⟨x7, 1, none⟩) (by simp; omega) (.int .i64 f.H)).far (p := ⟨x7, 2, none⟩) (by simp; omega) (.slice q7.ac f.nc q7.kc)).far (p := ⟨x7, 3, none⟩) (by simp; omega) (.slice q7.ad f.nd q7.kd)).far (p := ⟨x7, 4, none⟩) (by simp; omega) (.slice q7.ai f.ni q7.ki)).far (p := ⟨x7, 5, none⟩) (by simp; omega) (.slice q7.a4 f.nt q7.kt)))
          have B5n := Lib.hid (show HasBlk ((((((v7.setCell ⟨x7, 0, none⟩ (.int .i64 f.W)).setCell ⟨x7, 1, none⟩ (.int .i64 f.H)).setCell ⟨x7, 2, none⟩ (.slice q7.ac f.nc q7.kc)).setCell ⟨x7, 3, none⟩ (.slice q7.ad f.nd q7.kd)).setCell ⟨x7, 4, none⟩ (.slice q7.ai f.ni q7.ki)).setCell ⟨x7, 5, none⟩ (.slice q7.a4 f.nt q7.kt)) (w.heap.size + 1 + 1) 55 _ from ((((((B5.out.far (p := ⟨x7, 0, none⟩) (by simp; omega) (.int .i64 f.W)).far (p := ⟨x7, 1, none⟩) (by simp; omega) (.int .i64 f.H)).far (p := ⟨x7, 2, none⟩) (by simp; omega) (.slice q7.ac f.nc q7.kc)).far (p := ⟨x7, 3, none⟩) (by simp; omega) (.slice q7.ad f.nd q7.kd)).far (p := ⟨x7, 4, none⟩) (by simp; omega) (.slice q7.ai f.ni q7.ki)).far (p := ⟨x7, 5, none⟩) (by simp; omega) (.slice q7.a4 f.nt q7.kt)))
          have HBn := Lib.hid (show Below w.heap.size w ((((((v7.setCell ⟨x7, 0, none⟩ (.int .i64 f.W)).setCell ⟨x7, 1, none⟩ (.int .i64 f.H)).setCell ⟨x7, 2, none⟩ (.slice q7.ac f.nc q7.kc)).setCell ⟨x7, 3, none⟩ (.slice q7.ad f.nd q7.kd)).setCell ⟨x7, 4, none⟩ (.slice q7.ai f.ni q7.ki)).setCell ⟨x7, 5, none⟩ (.slice q7.a4 f.nt q7.kt)) from (Below.setCell (p := ⟨x7, 5, none⟩) (Below.setCell (p := ⟨x7, 4, none⟩) (Below.setCell (p := ⟨x7, 3, none⟩) (Below.setCell (p := ⟨x7, 2, none⟩) (Below.setCell (p := ⟨x7, 1, none⟩) (Below.setCell (p := ⟨x7, 0, none⟩) HB.out (hl1) (.int .i64 f.W)) (hl1) (.int .i64 f.H)) (hl1) (.slice q7.ac f.nc q7.kc)) (hl1) (.slice q7.ad f.nd q7.kd)) (hl1) (.slice q7.ai f.ni q7.ki)) (hl1) (.slice q7.a4 f.nt q7.kt)))
          have O7n := Lib.hid (show FOwn w.heap.size ((((((v7.setCell ⟨x7, 0, none⟩ (.int .i64 f.W)).setCell ⟨x7, 1, none⟩ (.int .i64 f.H)).setCell ⟨x7, 2, none⟩ (.slice q7.ac f.nc q7.kc)).setCell ⟨x7, 3, none⟩ (.slice q7.ad f.nd q7.kd)).setCell ⟨x7, 4, none⟩ (.slice q7.ai f.ni q7.ki)).setCell ⟨x7, 5, none⟩ (.slice q7.a4 f.nt q7.kt)) q7 f from ((((((O7.out.pset (j := 0) Zx7.out (by decide) (by decide) (.int .i64 f.W)).pset (j := 1) (Zx7.out.set 0 (.int .i64 f.W)) (by decide) (by decide) (.int .i64 f.H)).pset (j := 2) ((Zx7.out.set 0 (.int .i64 f.W)).set 1 (.int .i64 f.H)) (by decide) (by decide) (.slice q7.ac f.nc q7.kc)).pset (j := 3) (((Zx7.out.set 0 (.int .i64 f.W)).set 1 (.int .i64 f.H)).set 2 (.slice q7.ac f.nc q7.kc)) (by decide) (by decide) (.slice q7.ad f.nd q7.kd)).pset (j := 4) ((((Zx7.out.set 0 (.int .i64 f.W)).set 1 (.int .i64 f.H)).set 2 (.slice q7.ac f.nc q7.kc)).set 3 (.slice q7.ad f.nd q7.kd)) (by decide) (by decide) (.slice q7.ai f.ni q7.ki)).pset (j := 5) (((((Zx7.out.set 0 (.int .i64 f.W)).set 1 (.int .i64 f.H)).set 2 (.slice q7.ac f.nc q7.kc)).set 3 (.slice q7.ad f.nd q7.kd)).set 4 (.slice q7.ai f.ni q7.ki)) (by decide) (by decide) (.slice q7.a4 f.nt q7.kt)))
          have O8n := Lib.hid (show POwn w.heap.size ((((((v7.setCell ⟨x7, 0, none⟩ (.int .i64 f.W)).setCell ⟨x7, 1, none⟩ (.int .i64 f.H)).setCell ⟨x7, 2, none⟩ (.slice q7.ac f.nc q7.kc)).setCell ⟨x7, 3, none⟩ (.slice q7.ad f.nd q7.kd)).setCell ⟨x7, 4, none⟩ (.slice q7.ai f.ni q7.ki)).setCell ⟨x7, 5, none⟩ (.slice q7.a4 f.nt q7.kt)) q8 d from ((((((O8.out.pset (j := 0) Zx7.out (by decide) (by decide) (.int .i64 f.W)).pset (j := 1) (Zx7.out.set 0 (.int .i64 f.W)) (by decide) (by decide) (.int .i64 f.H)).pset (j := 2) ((Zx7.out.set 0 (.int .i64 f.W)).set 1 (.int .i64 f.H)) (by decide) (by decide) (.slice q7.ac f.nc q7.kc)).pset (j := 3) (((Zx7.out.set 0 (.int .i64 f.W)).set 1 (.int .i64 f.H)).set 2 (.slice q7.ac f.nc q7.kc)) (by decide) (by decide) (.slice q7.ad f.nd q7.kd)).pset (j := 4) ((((Zx7.out.set 0 (.int .i64 f.W)).set 1 (.int .i64 f.H)).set 2 (.slice q7.ac f.nc q7.kc)).set 3 (.slice q7.ad f.nd q7.kd)) (by decide) (by decide) (.slice q7.ai f.ni q7.ki)).pset (j := 5) (((((Zx7.out.set 0 (.int .i64 f.W)).set 1 (.int .i64 f.H)).set 2 (.slice q7.ac f.nc q7.kc)).set 3 (.slice q7.ad f.nd q7.kd)).set 4 (.slice q7.ai f.ni q7.ki)) (by decide) (by decide) (.slice q7.a4 f.nt q7.kt)))
          clear Zx7 Zx8 B3 B4 B5 HB O7 O8 HS z0 zf0 z1 zf1 z2 zf2 z3 zf3 z4 zf4 z5 zf5 zz hl1 hl2
          have Zx7 := Lib.hid Zx7n.out
          have Zx8 := Lib.hid Zx8n.out
          have B3 := Lib.hid B3n.out
          have B4 := Lib.hid B4n.out
          have B5 := Lib.hid B5n.out
          have HB := Lib.hid HBn.out
          have O7 := Lib.hid O7n.out
          have O8 := Lib.hid O8n.out
          clear Zx7n Zx8n B3n B4n B5n HBn O7n O8n
          have HS := Lib.hid (show (fun Wo => HasBlk Wo w.heap.size 29 #[.int .i64 f.W, .int .i64 f.H, .slice p.ac f.nc p.kc, .slice p.ad f.nd p.kd, .slice p.ai f.ni p.ki, .slice p.a4 f.nt p.kt] ∧ HasBlk Wo (w.heap.size + 1) 51 #[.slice q.A d.n q.c]) ((((((v7.setCell ⟨x7, 0, none⟩ (.int .i64 f.W)).setCell ⟨x7, 1, none⟩ (.int .i64 f.H)).setCell ⟨x7, 2, none⟩ (.slice q7.ac f.nc q7.kc)).setCell ⟨x7, 3, none⟩ (.slice q7.ad f.nd q7.kd)).setCell ⟨x7, 4, none⟩ (.slice q7.ai f.ni q7.ki)).setCell ⟨x7, 5, none⟩ (.slice q7.a4 f.nt q7.kt)) from ⟨B3.out, B4.out⟩)
          refine HK _ _ (fun _ => HS.out) ?_
          clear HK
          generalize ((((((v7.setCell ⟨x7, 0, none⟩ (.int .i64 f.W)).setCell ⟨x7, 1, none⟩ (.int .i64 f.H)).setCell ⟨x7, 2, none⟩ (.slice q7.ac f.nc q7.kc)).setCell ⟨x7, 3, none⟩ (.slice q7.ad f.nd q7.kd)).setCell ⟨x7, 4, none⟩ (.slice q7.ai f.ni q7.ki)).setCell ⟨x7, 5, none⟩ (.slice q7.a4 f.nt q7.kt)) = va at *
          refine wpAnyE_step (i := 7) rfl (by kernel_rfl) (fun KQ HK => ?_)
          have z0 := Zx8.out.cell 0
          have zf0 := Zx8.out.frozen 0
          have zz := Zx8.out.lt
          simp at z0
          go_wp2
          have hl1 := Lx8.out.1
          have hl2 := Lx8.out.2
          have Zx8n := Lib.hid (show HasBlk (va.setCell ⟨x8, 0, none⟩ (.slice q8.A d.n q8.c)) x8 51 #[.slice q8.A d.n q8.c] by simpa using ((Zx8.out).set 0 (.slice q8.A d.n q8.c)))
          have Zx7n := Lib.hid (show HasBlk (va.setCell ⟨x8, 0, none⟩ (.slice q8.A d.n q8.c)) x7 29 _ from (Zx7.out.far (p := ⟨x8, 0, none⟩) (by simp; omega) (.slice q8.A d.n q8.c)))
          have B3n := Lib.hid (show HasBlk (va.setCell ⟨x8, 0, none⟩ (.slice q8.A d.n q8.c)) w.heap.size 29 _ from (B3.out.far (p := ⟨x8, 0, none⟩) (by simp; omega) (.slice q8.A d.n q8.c)))
          have B4n := Lib.hid (show HasBlk (va.setCell ⟨x8, 0, none⟩ (.slice q8.A d.n q8.c)) (w.heap.size + 1) 51 _ from (B4.out.far (p := ⟨x8, 0, none⟩) (by simp; omega) (.slice q8.A d.n q8.c)))
          have B5n := Lib.hid (show HasBlk (va.setCell ⟨x8, 0, none⟩ (.slice q8.A d.n q8.c)) (w.heap.size + 1 + 1) 55 _ from (B5.out.far (p := ⟨x8, 0, none⟩) (by simp; omega) (.slice q8.A d.n q8.c)))
          have HBn := Lib.hid (show Below w.heap.size w (va.setCell ⟨x8, 0, none⟩ (.slice q8.A d.n q8.c)) from (Below.setCell (p := ⟨x8, 0, none⟩) HB.out (hl1) (.slice q8.A d.n q8.c)))
          have O7n := Lib.hid (show FOwn w.heap.size (va.setCell ⟨x8, 0, none⟩ (.slice q8.A d.n q8.c)) q7 f from (O7.out.pset (j := 0) Zx8.out (by decide) (by decide) (.slice q8.A d.n q8.c)))
          have O8n := Lib.hid (show POwn w.heap.size (va.setCell ⟨x8, 0, none⟩ (.slice q8.A d.n q8.c)) q8 d from (O8.out.pset (j := 0) Zx8.out (by decide) (by decide) (.slice q8.A d.n q8.c)))
          clear Zx8 Zx7 B3 B4 B5 HB O7 O8 HS z0 zf0 zz hl1 hl2
          have Zx8 := Lib.hid Zx8n.out
          have Zx7 := Lib.hid Zx7n.out
          have B3 := Lib.hid B3n.out
          have B4 := Lib.hid B4n.out
          have B5 := Lib.hid B5n.out
          have HB := Lib.hid HBn.out
          have O7 := Lib.hid O7n.out
          have O8 := Lib.hid O8n.out
          clear Zx8n Zx7n B3n B4n B5n HBn O7n O8n
          have HS := Lib.hid (show (fun Wo => HasBlk Wo w.heap.size 29 #[.int .i64 f.W, .int .i64 f.H, .slice p.ac f.nc p.kc, .slice p.ad f.nd p.kd, .slice p.ai f.ni p.ki, .slice p.a4 f.nt p.kt] ∧ HasBlk Wo (w.heap.size + 1) 51 #[.slice q.A d.n q.c]) (va.setCell ⟨x8, 0, none⟩ (.slice q8.A d.n q8.c)) from ⟨B3.out, B4.out⟩)
          refine HK _ _ (fun _ => HS.out) ?_
          clear HK
          generalize (va.setCell ⟨x8, 0, none⟩ (.slice q8.A d.n q8.c)) = vb at *
          refine wpAnyE_done (by kernel_rfl) ?_
          go_wp2_with fail
          go_meet
          exact ⟨x7, x8, q7, q8, rfl, rfl, Zx7.out, Zx8.out, O7.out.ok, O8.out.ok, B3.out, B4.out, B5.out, HB.out⟩
      · go_wp2
        have hbel := (Below.refl v4.heap.size v4).alloc (Nat.le_refl _) (.cells #[.int .i64 0, .int .i64 0, .slice none 0 0, .slice none 0 0, .slice none 0 0, .slice none 0 0] 29)
        have Zx7 := Lib.hid (hasBlk_new v4 29 #[.int .i64 0, .int .i64 0, .slice none 0 0, .slice none 0 0, .slice none 0 0, .slice none 0 0])
        clear HS
        have Lx7 := Lib.hid (show w.heap.size ≤ v4.heap.size ∧ (w.heap.size + 1 + 1) < v4.heap.size from ⟨HB.out.size, B5.out.lt⟩)
        have B3' := Lib.hid (B3.out.below (hbel))
        have B4' := Lib.hid (B4.out.below (hbel))
        have B5' := Lib.hid (B5.out.below (hbel))
        have OF' := Lib.hid (OF.out.below (hbel))
        have OP' := Lib.hid (OP.out.below (hbel))
        have O7' := Lib.hid (O7.out.below (hbel))
        have HB' := Lib.hid (HB.out.trans ((hbel).mono HB.out.size))
        clear B3 B4 B5 OF OP O7 HB
        have B3 := Lib.hid B3'.out
        have B4 := Lib.hid B4'.out
        have B5 := Lib.hid B5'.out
        have OF := Lib.hid OF'.out
        have OP := Lib.hid OP'.out
        have O7 := Lib.hid O7'.out
        have HB := Lib.hid HB'.out
        clear B3' B4' B5' OF' OP' O7' HB'
        have HS := Lib.hid (show (fun Wo => HasBlk Wo w.heap.size 29 #[.int .i64 f.W, .int .i64 f.H, .slice p.ac f.nc p.kc, .slice p.ad f.nd p.kd, .slice p.ai f.ni p.ki, .slice p.a4 f.nt p.kt] ∧ HasBlk Wo (w.heap.size + 1) 51 #[.slice q.A d.n q.c]) (v4.alloc (.cells #[.int .i64 0, .int .i64 0, .slice none 0 0, .slice none 0 0, .slice none 0 0, .slice none 0 0] 29)) from ⟨B3.out, B4.out⟩)
        clear hbel
        refine HK _ _ (fun _ => HS.out) ?_
        clear HK
        obtain ⟨x7, hx7⟩ : ∃ x7, x7 = v4.heap.size := ⟨_, rfl⟩
        rw [← hx7] at Zx7 Lx7 ⊢
        clear hx7
        generalize v4.alloc (.cells #[.int .i64 0, .int .i64 0, .slice none 0 0, .slice none 0 0, .slice none 0 0, .slice none 0 0] 29) = v5 at *
        refine wpAnyE_two (i := 3) (j := 5) rfl rfl (by kernel_rfl) (fun KQ HK => ?_) (fun KQ HK => ?_)
        · have KX := Lib.hid (ptwin_any d q NP.out v5 OP.out)
          go_wp2_with fail
          refine KX.out.mono ?_
          rintro e v6 ⟨⟨q8, rfl, hown⟩, bel⟩
          have O8 := Lib.hid (hown.base HB.out.size)
          clear KX hown HS
          have B3' := Lib.hid (B3.out.below (bel))
          have B4' := Lib.hid (B4.out.below (bel))
          have B5' := Lib.hid (B5.out.below (bel))
          have OF' := Lib.hid (OF.out.below (bel))
          have OP' := Lib.hid (OP.out.below (bel))
          have O7' := Lib.hid (O7.out.below (bel))
          have Zx7' := Lib.hid (Zx7.out.below (bel))
          have HB' := Lib.hid (HB.out.trans ((bel).mono HB.out.size))
          clear B3 B4 B5 OF OP O7 Zx7 HB
          have B3 := Lib.hid B3'.out
          have B4 := Lib.hid B4'.out
          have B5 := Lib.hid B5'.out
          have OF := Lib.hid OF'.out
          have OP := Lib.hid OP'.out
          have O7 := Lib.hid O7'.out
          have Zx7 := Lib.hid Zx7'.out
          have HB := Lib.hid HB'.out
          clear B3' B4' B5' OF' OP' O7' Zx7' HB'
          clear bel
          have HS := Lib.hid (show (fun Wo => HasBlk Wo w.heap.size 29 #[.int .i64 f.W, .int .i64 f.H, .slice p.ac f.nc p.kc, .slice p.ad f.nd p.kd, .slice p.ai f.ni p.ki, .slice p.a4 f.nt p.kt] ∧ HasBlk Wo (w.heap.size + 1) 51 #[.slice q.A d.n q.c]) v6 from ⟨B3.out, B4.out⟩)
          go_wp2
          refine HK _ _ (fun _ => HS.out) ?_
          clear HK
          refine wpAnyE_step (i := 5) rfl (by kernel_rfl) (fun KQ HK => ?_)
          go_wp2
          have hbel := (Below.refl v6.heap.size v6).alloc (Nat.le_refl _) (.cells #[.slice none 0 0] 51)
          have Zx8 := Lib.hid (hasBlk_new v6 51 #[.slice none 0 0])
          clear HS
          have Lx8 := Lib.hid (show w.heap.size ≤ v6.heap.size ∧ (w.heap.size + 1 + 1) < v6.heap.size from ⟨HB.out.size, B5.out.lt⟩)
          have hne := Zx7.out.lt
          have B3' := Lib.hid (B3.out.below (hbel))
          have B4' := Lib.hid (B4.out.below (hbel))
          have B5' := Lib.hid (B5.out.below (hbel))
          have OF' := Lib.hid (OF.out.below (hbel))
          have OP' := Lib.hid (OP.out.below (hbel))
          have O7' := Lib.hid (O7.out.below (hbel))
          have Zx7' := Lib.hid (Zx7.out.below (hbel))
          have O8' := Lib.hid (O8.out.below (hbel))
          have HB' := Lib.hid (HB.out.trans ((hbel).mono HB.out.size))
          clear B3 B4 B5 OF OP O7 Zx7 O8 HB
          have B3 := Lib.hid B3'.out
          have B4 := Lib.hid B4'.out
          have B5 := Lib.hid B5'.out
          have OF := Lib.hid OF'.out
          have OP := Lib.hid OP'.out
          have O7 := Lib.hid O7'.out
          have Zx7 := Lib.hid Zx7'.out
          have O8 := Lib.hid O8'.out
          have HB := Lib.hid HB'.out
          clear B3' B4' B5' OF' OP' O7' Zx7' O8' HB'
          have HS := Lib.hid (show (fun Wo => HasBlk Wo w.heap.size 29 #[.int .i64 f.W, .int .i64 f.H, .slice p.ac f.nc p.kc, .slice p.ad f.nd p.kd, .slice p.ai f.ni p.ki, .slice p.a4 f.nt p.kt] ∧ HasBlk Wo (w.heap.size + 1) 51 #[.slice q.A d.n q.c]) (v6.alloc (.cells #[.slice none 0 0] 51)) from ⟨B3.out, B4.out⟩)
          clear hbel
          refine HK _ _ (fun _ => HS.out) ?_
          clear HK
          obtain ⟨x8, hx8⟩ : ∃ x8, x8 = v6.heap.size := ⟨_, rfl⟩
          rw [← hx8] at Zx8 Lx8 ⊢
          rw [← hx8] at hne
          clear hx8
          generalize v6.alloc (.cells #[.slice none 0 0] 51) = v7 at *
          refine wpAnyE_step (i := 6) rfl (by kernel_rfl) (fun KQ HK => ?_)
          have z0 := Zx7.out.cell 0
          have zf0 := Zx7.out.frozen 0
          have z1 := Zx7.out.cell 1
          have zf1 := Zx7.out.frozen 1
          have z2 := Zx7.out.cell 2
          have zf2 := Zx7.out.frozen 2
          have z3 := Zx7.out.cell 3
          have zf3 := Zx7.out.frozen 3
          have z4 := Zx7.out.cell 4
          have zf4 := Zx7.out.frozen 4
          have z5 := Zx7.out.cell 5
          have zf5 := Zx7.out.frozen 5
          have zz := Zx7.out.lt
          simp at z0 z1 z2 z3 z4 z5
          go_wp2
          have hl1 := Lx7.out.1
          have hl2 := Lx7.out.2
          have Zx7n := Lib.hid (show HasBlk ((((((v7.setCell ⟨x7, 0, none⟩ (.int .i64 f.W)).setCell ⟨x7, 1, none⟩ (.int .i64 f.H)).setCell ⟨x7, 2, none⟩ (.slice q7.ac f.nc q7.kc)).setCell ⟨x7, 3, none⟩ (.slice q7.ad f.nd q7.kd)).setCell ⟨x7, 4, none⟩ (.slice q7.ai f.ni q7.ki)).setCell ⟨x7, 5, none⟩ (.slice q7.a4 f.nt q7.kt)) x7 29 #[.int .i64 f.W, .int .i64 f.H, .slice q7.ac f.nc q7.kc, .slice q7.ad f.nd q7.kd, .slice q7.ai f.ni q7.ki, .slice q7.a4 f.nt q7.kt] by simpa using ((((((((((((Zx7.out).set 0 (.int .i64 f.W))).set 1 (.int .i64 f.H))).set 2 (.slice q7.ac f.nc q7.kc))).set 3 (.slice q7.ad f.nd q7.kd))).set 4 (.slice q7.ai f.ni q7.ki))).set 5 (.slice q7.a4 f.nt q7.kt)))
          have Zx8n := Lib.hid (show HasBlk ((((((v7.setCell ⟨x7, 0, none⟩ (.int .i64 f.W)).setCell ⟨x7, 1, none⟩ (.int .i64 f.H)).setCell ⟨x7, 2, none⟩ (.slice q7.ac f.nc q7.kc)).setCell ⟨x7, 3, none⟩ (.slice q7.ad f.nd q7.kd)).setCell ⟨x7, 4, none⟩ (.slice q7.ai f.ni q7.ki)).setCell ⟨x7, 5, none⟩ (.slice q7.a4 f.nt q7.kt)) x8 51 _ from ((((((Zx8.out.far (p := ⟨x7, 0, none⟩) (by simp; omega) (.int .i64 f.W)).far (p := ⟨x7, 1, none⟩) (by simp; omega) (.int .i64 f.H)).far (p := ⟨x7, 2, none⟩) (by simp; omega) (.slice q7.ac f.nc q7.kc)).far (p := ⟨x7, 3, none⟩) (by simp; omega) (.slice q7.ad f.nd q7.kd)).far (p := ⟨x7, 4, none⟩) (by simp; omega) (.slice q7.ai f.ni q7.ki)).far (p := ⟨x7, 5, none⟩) (by simp; omega) (.slice q7.a4 f.nt q7.kt)))
          have B3n := Lib.hid (show HasBlk ((((((v7.setCell ⟨x7, 0, none⟩ (.int .i64 f.W)).setCell ⟨x7, 1, none⟩ (.int .i64 f.H)).setCell ⟨x7, 2, none⟩ (.slice q7.ac f.nc q7.kc)).setCell ⟨x7, 3, none⟩ (.slice q7.ad f.nd q7.kd)).setCell ⟨x7, 4, none⟩ (.slice q7.ai f.ni q7.ki)).setCell ⟨x7, 5, none⟩ (.slice q7.a4 f.nt q7.kt)) w.heap.size 29 _ from ((((((B3.out.far (p := ⟨x7, 0, none⟩) (by simp; omega) (.int .i64 f.W)).far (p := ⟨x7, 1, none⟩) (by simp; omega) (.int .i64 f.H)).far (p := ⟨x7, 2, none⟩) (by simp; omega) (.slice q7.ac f.nc q7.kc)).far (p := ⟨x7, 3, none⟩) (by simp; omega) (.slice q7.ad f.nd q7.kd)).far (p := ⟨x7, 4, none⟩) (by simp; omega) (.slice q7.ai f.ni q7.ki)).far (p := ⟨x7, 5, none⟩) (by simp; omega) (.slice q7.a4 f.nt q7.kt)))
          have B4n := Lib.hid (show HasBlk ((((((v7.setCell ⟨x7, 0, none⟩ (.int .i64 f.W)).setCell ⟨x7, 1, none⟩ (.int .i64 f.H)).setCell ⟨x7, 2, none⟩ (.slice q7.ac f.nc q7.kc)).setCell ⟨x7, 3, none⟩ (.slice q7.ad f.nd q7.kd)).setCell ⟨x7, 4, none⟩ (.slice q7.ai f.ni q7.ki)).setCell ⟨x7, 5, none⟩ (.slice q7.a4 f.nt q7.kt)) (w.heap.size + 1) 51 _ from ((((((B4.out.far (p := ⟨x7, 0, none⟩) (by simp; omega) (.int .i64 f.W)).far (p := ⟨x7, 1, none⟩) (by simp; omega) (.int .i64 f.H)).far (p := ⟨x7, 2, none⟩) (by simp; omega) (.slice q7.ac f.nc q7.kc)).far (p := ⟨x7, 3, none⟩) (by simp; omega) (.slice q7.ad f.nd q7.kd)).far (p := ⟨x7, 4, none⟩) (by simp; omega) (.slice q7.ai f.ni q7.ki)).far (p := ⟨x7, 5, none⟩) (by simp; omega) (.slice q7.a4 f.nt q7.kt)))
          have B5n := Lib.hid (show HasBlk ((((((v7.setCell ⟨x7, 0, none⟩ (.int .i64 f.W)).setCell ⟨x7, 1, none⟩ (.int .i64 f.H)).setCell ⟨x7, 2, none⟩ (.slice q7.ac f.nc q7.kc)).setCell ⟨x7, 3, none⟩ (.slice q7.ad f.nd q7.kd)).setCell ⟨x7, 4, none⟩ (.slice q7.ai f.ni q7.ki)).setCell ⟨x7, 5, none⟩ (.slice q7.a4 f.nt q7.kt)) (w.heap.size + 1 + 1) 55 _ from ((((((B5.out.far (p := ⟨x7, 0, none⟩) (by simp; omega) (.int .i64 f.W)).far (p := ⟨x7, 1, none⟩) (by simp; omega) (.int .i64 f.H)).far (p := ⟨x7, 2, none⟩) (by simp; omega) (.slice q7.ac f.nc q7.kc)).far (p := ⟨x7, 3, none⟩) (by simp; omega) (.slice q7.ad f.nd q7.kd)).far (p := ⟨x7, 4, none⟩) (by simp; omega) (.slice q7.ai f.ni q7.ki)).far (p := ⟨x7, 5, none⟩) (by simp; omega) (.slice q7.a4 f.nt q7.kt)))
          have HBn := Lib.hid (show Below w.heap.size w ((((((v7.setCell ⟨x7, 0, none⟩ (.int .i64 f.W)).setCell ⟨x7, 1, none⟩ (.int .i64 f.H)).setCell ⟨x7, 2, none⟩ (.slice q7.ac f.nc q7.kc)).setCell ⟨x7, 3, none⟩ (.slice q7.ad f.nd q7.kd)).setCell ⟨x7, 4, none⟩ (.slice q7.ai f.ni q7.ki)).setCell ⟨x7, 5, none⟩ (.slice q7.a4 f.nt q7.kt)) from (Below.setCell (p := ⟨x7, 5, none⟩) (Below.setCell (p := ⟨x7, 4, none⟩) (Below.setCell (p := ⟨x7, 3, none⟩) (Below.setCell (p := ⟨x7, 2, none⟩) (Below.setCell (p := ⟨x7, 1, none⟩) (Below.setCell (p := ⟨x7, 0, none⟩) HB.out (hl1) (.int .i64 f.W)) (hl1) (.int .i64 f.H)) (hl1) (.slice q7.ac f.nc q7.kc)) (hl1) (.slice q7.ad f.nd q7.kd)) (hl1) (.slice q7.ai f.ni q7.ki)) (hl1) (.slice q7.a4 f.nt q7.kt)))
          have O7n := Lib.hid (show FOwn w.heap.size ((((((v7.setCell ⟨x7, 0, none⟩ (.int .i64 f.W)).setCell ⟨x7, 1, none⟩ (.int .i64 f.H)).setCell ⟨x7, 2, none⟩ (.slice q7.ac f.nc q7.kc)).setCell ⟨x7, 3, none⟩ (.slice q7.ad f.nd q7.kd)).setCell ⟨x7, 4, none⟩ (.slice q7.ai f.ni q7.ki)).setCell ⟨x7, 5, none⟩ (.slice q7.a4 f.nt q7.kt)) q7 f from ((((((O7.out.pset (j := 0) Zx7.out (by decide) (by decide) (.int .i64 f.W)).pset (j := 1) (Zx7.out.set 0 (.int .i64 f.W)) (by decide) (by decide) (.int .i64 f.H)).pset (j := 2) ((Zx7.out.set 0 (.int .i64 f.W)).set 1 (.int .i64 f.H)) (by decide) (by decide) (.slice q7.ac f.nc q7.kc)).pset (j := 3) (((Zx7.out.set 0 (.int .i64 f.W)).set 1 (.int .i64 f.H)).set 2 (.slice q7.ac f.nc q7.kc)) (by decide) (by decide) (.slice q7.ad f.nd q7.kd)).pset (j := 4) ((((Zx7.out.set 0 (.int .i64 f.W)).set 1 (.int .i64 f.H)).set 2 (.slice q7.ac f.nc q7.kc)).set 3 (.slice q7.ad f.nd q7.kd)) (by decide) (by decide) (.slice q7.ai f.ni q7.ki)).pset (j := 5) (((((Zx7.out.set 0 (.int .i64 f.W)).set 1 (.int .i64 f.H)).set 2 (.slice q7.ac f.nc q7.kc)).set 3 (.slice q7.ad f.nd q7.kd)).set 4 (.slice q7.ai f.ni q7.ki)) (by decide) (by decide) (.slice q7.a4 f.nt q7.kt)))
          have O8n := Lib.hid (show POwn w.heap.size ((((((v7.setCell ⟨x7, 0, none⟩ (.int .i64 f.W)).setCell ⟨x7, 1, none⟩ (.int .i64 f.H)).setCell ⟨x7, 2, none⟩ (.slice q7.ac f.nc q7.kc)).setCell ⟨x7, 3, none⟩ (.slice q7.ad f.nd q7.kd)).setCell ⟨x7, 4, none⟩ (.slice q7.ai f.ni q7.ki)).setCell ⟨x7, 5, none⟩ (.slice q7.a4 f.nt q7.kt)) q8 d from ((((((O8.out.pset (j := 0) Zx7.out (by decide) (by decide) (.int .i64 f.W)).pset (j := 1) (Zx7.out.set 0 (.int .i64 f.W)) (by decide) (by decide) (.int .i64 f.H)).pset (j := 2) ((Zx7.out.set 0 (.int .i64 f.W)).set 1 (.int .i64 f.H)) (by decide) (by decide) (.slice q7.ac f.nc q7.kc)).pset (j := 3) (((Zx7.out.set 0 (.int .i64 f.W)).set 1 (.int .i64 f.H)).set 2 (.slice q7.ac f.nc q7.kc)) (by decide) (by decide) (.slice q7.ad f.nd q7.kd)).pset (j := 4) ((((Zx7.out.set 0 (.int .i64 f.W)).set 1 (.int .i64 f.H)).set 2 (.slice q7.ac f.nc q7.kc)).set 3 (.slice q7.ad f.nd q7.kd)) (by decide) (by decide) (.slice q7.ai f.ni q7.ki)).pset (j := 5) (((((Zx7.out.set 0 (.int .i64 f.W)).set 1 (.int .i64 f.H)).set 2 (.slice q7.ac f.nc q7.kc)).set 3 (.slice q7.ad f.nd q7.kd)).set 4 (.slice q7.ai f.ni q7.ki)) (by decide) (by decide) (.slice q7.a4 f.nt q7.kt)))
          clear Zx7 Zx8 B3 B4 B5 HB O7 O8 HS z0 zf0 z1 zf1 z2 zf2 z3 zf3 z4 zf4 z5 zf5 zz hl1 hl2
          have Zx7 := Lib.hid Zx7n.out
          have Zx8 := Lib.hid Zx8n.out
          have B3 := Lib.hid B3n.out
          have B4 := Lib.hid B4n.out
          have B5 := Lib.hid B5n.out
          have HB := Lib.hid HBn.out
          have O7 := Lib.hid O7n.out
          have O8 := Lib.hid O8n.out
          clear Zx7n Zx8n B3n B4n B5n HBn O7n O8n
          have HS := Lib.hid (show (fun Wo => HasBlk Wo w.heap.size 29 #[.int .i64 f.W, .int .i64 f.H, .slice p.ac f.nc p.kc, .slice p.ad f.nd p.kd, .slice p.ai f.ni p.ki, .slice p.a4 f.nt p.kt] ∧ HasBlk Wo (w.heap.size + 1) 51 #[.slice q.A d.n q.c]) ((((((v7.setCell ⟨x7, 0, none⟩ (.int .i64 f.W)).setCell ⟨x7, 1, none⟩ (.int .i64 f.H)).setCell ⟨x7, 2, none⟩ (.slice q7.ac f.nc q7.kc)).setCell ⟨x7, 3, none⟩ (.slice q7.ad f.nd q7.kd)).setCell ⟨x7, 4, none⟩ (.slice q7.ai f.ni q7.ki)).setCell ⟨x7, 5, none⟩ (.slice q7.a4 f.nt q7.kt)) from ⟨B3.out, B4.out⟩)
          refine HK _ _ (fun _ => HS.out) ?_
          clear HK
          generalize ((((((v7.setCell ⟨x7, 0, none⟩ (.int .i64 f.W)).setCell ⟨x7, 1, none⟩ (.int .i64 f.H)).setCell ⟨x7, 2, none⟩ (.slice q7.ac f.nc q7.kc)).setCell ⟨x7, 3, none⟩ (.slice q7.ad f.nd q7.kd)).setCell ⟨x7, 4, none⟩ (.slice q7.ai f.ni q7.ki)).setCell ⟨x7, 5, none⟩ (.slice q7.a4 f.nt q7.kt)) = va at *
          refine wpAnyE_step (i := 7) rfl (by kernel_rfl) (fun KQ HK => ?_)
          have z0 := Zx8.out.cell 0
          have zf0 := Zx8.out.frozen 0
          have zz := Zx8.out.lt
          simp at z0
          go_wp2
          have hl1 := Lx8.out.1
          have hl2 := Lx8.out.2
          have Zx8n := Lib.hid (show HasBlk (va.setCell ⟨x8, 0, none⟩ (.slice q8.A d.n q8.c)) x8 51 #[.slice q8.A d.n q8.c] by simpa using ((Zx8.out).set 0 (.slice q8.A d.n q8.c)))
          have Zx7n := Lib.hid (show HasBlk (va.setCell ⟨x8, 0, none⟩ (.slice q8.A d.n q8.c)) x7 29 _ from (Zx7.out.far (p := ⟨x8, 0, none⟩) (by simp; omega) (.slice q8.A d.n q8.c)))
          have B3n := Lib.hid (show HasBlk (va.setCell ⟨x8, 0, none⟩ (.slice q8.A d.n q8.c)) w.heap.size 29 _ from (B3.out.far (p := ⟨x8, 0, none⟩) (by simp; omega) (.slice q8.A d.n q8.c)))
          have B4n := Lib.hid (show HasBlk (va.setCell ⟨x8, 0, none⟩ (.slice q8.A d.n q8.c)) (w.heap.size + 1) 51 _ from (B4.out.far (p := ⟨x8, 0, none⟩) (by simp; omega) (.slice q8.A d.n q8.c)))
          have B5n := Lib.hid (show HasBlk (va.setCell ⟨x8, 0, none⟩ (.slice q8.A d.n q8.c)) (w.heap.size + 1 + 1) 55 _ from (B5.out.far (p := ⟨x8, 0, none⟩) (by simp; omega) (.slice q8.A d.n q8.c)))
          have HBn := Lib.hid (show Below w.heap.size w (va.setCell ⟨x8, 0, none⟩ (.slice q8.A d.n q8.c)) from (Below.setCell (p := ⟨x8, 0, none⟩) HB.out (hl1) (.slice q8.A d.n q8.c)))
          have O7n := Lib.hid (show FOwn w.heap.size (va.setCell ⟨x8, 0, none⟩ (.slice q8.A d.n q8.c)) q7 f from (O7.out.pset (j := 0) Zx8.out (by decide) (by decide) (.slice q8.A d.n q8.c)))
          have O8n := Lib.hid (show POwn w.heap.size (va.setCell ⟨x8, 0, none⟩ (.slice q8.A d.n q8.c)) q8 d from (O8.out.pset (j := 0) Zx8.out (by decide) (by decide) (.slice q8.A d.n q8.c)))
          clear Zx8 Zx7 B3 B4 B5 HB O7 O8 HS z0 zf0 zz hl1 hl2
          have Zx8 := Lib.hid Zx8n.out
          have Zx7 := Lib.hid Zx7n.out
          have B3 := Lib.hid B3n.out
          have B4 := Lib.hid B4n.out
          have B5 := Lib.hid B5n.out
          have HB := Lib.hid HBn.out
          have O7 := Lib.hid O7n.out
          have O8 := Lib.hid O8n.out
          clear Zx8n Zx7n B3n B4n B5n HBn O7n O8n
          have HS := Lib.hid (show (fun Wo => HasBlk Wo w.heap.size 29 #[.int .i64 f.W, .int .i64 f.H, .slice p.ac f.nc p.kc, .slice p.ad f.nd p.kd, .slice p.ai f.ni p.ki, .slice p.a4 f.nt p.kt] ∧ HasBlk Wo (w.heap.size + 1) 51 #[.slice q.A d.n q.c]) (va.setCell ⟨x8, 0, none⟩ (.slice q8.A d.n q8.c)) from ⟨B3.out, B4.out⟩)
          refine HK _ _ (fun _ => HS.out) ?_
          clear HK
          generalize (va.setCell ⟨x8, 0, none⟩ (.slice q8.A d.n q8.c)) = vb at *
          refine wpAnyE_done (by kernel_rfl) ?_
          go_wp2_with fail
          go_meet
          exact ⟨x7, x8, q7, q8, rfl, rfl, Zx7.out, Zx8.out, O7.out.ok, O8.out.ok, B3.out, B4.out, B5.out, HB.out⟩
        · go_wp2
          have hbel := (Below.refl v5.heap.size v5).alloc (Nat.le_refl _) (.cells #[.slice none 0 0] 51)
          have Zx8 := Lib.hid (hasBlk_new v5 51 #[.slice none 0 0])
          clear HS
          have Lx8 := Lib.hid (show w.heap.size ≤ v5.heap.size ∧ (w.heap.size + 1 + 1) < v5.heap.size from ⟨HB.out.size, B5.out.lt⟩)
          have hne := Zx7.out.lt
          have B3' := Lib.hid (B3.out.below (hbel))
          have B4' := Lib.hid (B4.out.below (hbel))
          have B5' := Lib.hid (B5.out.below (hbel))
          have OF' := Lib.hid (OF.out.below (hbel))
          have OP' := Lib.hid (OP.out.below (hbel))
          have O7' := Lib.hid (O7.out.below (hbel))
          have Zx7' := Lib.hid (Zx7.out.below (hbel))
          have HB' := Lib.hid (HB.out.trans ((hbel).mono HB.out.size))
          clear B3 B4 B5 OF OP O7 Zx7 HB
          have B3 := Lib.hid B3'.out
          have B4 := Lib.hid B4'.out
          have B5 := Lib.hid B5'.out
          have OF := Lib.hid OF'.out
          have OP := Lib.hid OP'.out
          have O7 := Lib.hid O7'.out
          have Zx7 := Lib.hid Zx7'.out
          have HB := Lib.hid HB'.out
          clear B3' B4' B5' OF' OP' O7' Zx7' HB'
          have HS := Lib.hid (show (fun Wo => HasBlk Wo w.heap.size 29 #[.int .i64 f.W, .int .i64 f.H, .slice p.ac f.nc p.kc, .slice p.ad f.nd p.kd, .slice p.ai f.ni p.ki, .slice p.a4 f.nt p.kt] ∧ HasBlk Wo (w.heap.size + 1) 51 #[.slice q.A d.n q.c]) (v5.alloc (.cells #[.slice none 0 0] 51)) from ⟨B3.out, B4.out⟩)
          clear hbel
          refine HK _ _ (fun _ => HS.out) ?_
          clear HK
          obtain ⟨x8, hx8⟩ : ∃ x8, x8 = v5.heap.size := ⟨_, rfl⟩
          rw [← hx8] at Zx8 Lx8 ⊢
          rw [← hx8] at hne
          clear hx8
          generalize v5.alloc (.cells #[.slice none 0 0] 51) = v6 at *
          refine wpAnyE_step (i := 3) rfl (by kernel_rfl) (fun KQ HK => ?_)
          have KX := Lib.hid (ptwin_any d q NP.out v6 OP.out)
          go_wp2_with fail
          refine KX.out.mono ?_
          rintro e v7 ⟨⟨q8, rfl, hown⟩, bel⟩
          have O8 := Lib.hid (hown.base HB.out.size)
          clear KX hown HS
          have B3' := Lib.hid (B3.out.below (bel))
          have B4' := Lib.hid (B4.out.below (bel))
          have B5' := Lib.hid (B5.out.below (bel))
          have OF' := Lib.hid (OF.out.below (bel))
          have OP' := Lib.hid (OP.out.below (bel))
          have O7' := Lib.hid (O7.out.below (bel))
          have Zx7' := Lib.hid (Zx7.out.below (bel))
          have Zx8' := Lib.hid (Zx8.out.below (bel))
          have HB' := Lib.hid (HB.out.trans ((bel).mono HB.out.size))
          clear B3 B4 B5 OF OP O7 Zx7 Zx8 HB
          have B3 := Lib.hid B3'.out
          have B4 := Lib.hid B4'.out
          have B5 := Lib.hid B5'.out
          have OF := Lib.hid OF'.out
          have OP := Lib.hid OP'.out
          have O7 := Lib.hid O7'.out
          have Zx7 := Lib.hid Zx7'.out
          have Zx8 := Lib.hid Zx8'.out
          have HB := Lib.hid HB'.out
          clear B3' B4' B5' OF' OP' O7' Zx7' Zx8' HB'
          clear bel
          have HS := Lib.hid (show (fun Wo => HasBlk Wo w.heap.size 29 #[.int .i64 f.W, .int .i64 f.H, .slice p.ac f.nc p.kc, .slice p.ad f.nd p.kd, .slice p.ai f.ni p.ki, .slice p.a4 f.nt p.kt] ∧ HasBlk Wo (w.heap.size + 1) 51 #[.slice q.A d.n q.c]) v7 from ⟨B3.out, B4.out⟩)
          go_wp2
          refine HK _ _ (fun _ => HS.out) ?_
          clear HK
          refine wpAnyE_step (i := 6) rfl (by kernel_rfl) (fun KQ HK => ?_)
          have z0 := Zx7.out.cell 0
          have zf0 := Zx7.out.frozen 0
          have z1 := Zx7.out.cell 1
          have zf1 := Zx7.out.frozen 1
          have z2 := Zx7.out.cell 2
          have zf2 := Zx7.out.frozen 2
          have z3 := Zx7.out.cell 3
          have zf3 := Zx7.out.frozen 3
          have z4 := Zx7.out.cell 4
          have zf4 := Zx7.out.frozen 4
          have z5 := Zx7.out.cell 5
          have zf5 := Zx7.out.frozen 5
          have zz := Zx7.out.lt
          simp at z0 z1 z2 z3 z4 z5
          go_wp2
          have hl1 := Lx7.out.1
          have hl2 := Lx7.out.2
          have Zx7n := Lib.hid (show HasBlk ((((((v7.setCell ⟨x7, 0, none⟩ (.int .i64 f.W)).setCell ⟨x7, 1, none⟩ (.int .i64 f.H)).setCell ⟨x7, 2, none⟩ (.slice q7.ac f.nc q7.kc)).setCell ⟨x7, 3, none⟩ (.slice q7.ad f.nd q7.kd)).setCell ⟨x7, 4, none⟩ (.slice q7.ai f.ni q7.ki)).setCell ⟨x7, 5, none⟩ (.slice q7.a4 f.nt q7.kt)) x7 29 #[.int .i64 f.W, .int .i64 f.H, .slice q7.ac f.nc q7.kc, .slice q7.ad f.nd q7.kd, .slice q7.ai f.ni q7.ki, .slice q7.a4 f.nt q7.kt] by simpa using ((((((((((((Zx7.out).set 0 (.int .i64 f.W))).set 1 (.int .i64 f.H))).set 2 (.slice q7.ac f.nc q7.kc))).set 3 (.slice q7.ad f.nd q7.kd))).set 4 (.slice q7.ai f.ni q7.ki))).set 5 (.slice q7.a4 f.nt q7.kt)))
          have Zx8n := Lib.hid (show HasBlk ((((((v7.setCell ⟨x7, 0, none⟩ (.int .i64 f.W)).setCell ⟨x7, 1, none⟩ (.int .i64 f.H)).setCell ⟨x7, 2, none⟩ (.slice q7.ac f.nc q7.kc)).setCell ⟨x7, 3, none⟩ (.slice q7.ad f.nd q7.kd)).setCell ⟨x7, 4, none⟩ (.slice q7.ai f.ni q7.ki)).setCell ⟨x7, 5, none⟩ (.slice q7.a4 f.nt q7.kt)) x8 51 _ from ((((((Zx8.out.far (p := ⟨x7, 0, none⟩) (by simp; omega) (.int .i64 f.W)).far (p := ⟨x7, 1, none⟩) (by simp; omega) (.int .i64 f.H)).far (p := ⟨x7, 2, none⟩) (by simp; omega) (.slice q7.ac f.nc q7.kc)).far (p := ⟨x7, 3, none⟩) (by simp; omega) (.slice q7.ad f.nd q7.kd)).far (p := ⟨x7, 4, none⟩) (by simp; omega) (.slice q7.ai f.ni q7.ki)).far (p := ⟨x7, 5, none⟩) (by simp; omega) (.slice q7.a4 f.nt q7.kt)))
          have B3n := Lib.hid (show HasBlk ((((((v7.setCell ⟨x7, 0, none⟩ (.int .i64 f.W)).setCell ⟨x7, 1, none⟩ (.int .i64 f.H)).setCell ⟨x7, 2, none⟩ (.slice q7.ac f.nc q7.kc)).setCell ⟨x7, 3, none⟩ (.slice q7.ad f.nd q7.kd)).setCell ⟨x7, 4, none⟩ (.slice q7.ai f.ni q7.ki)).setCell ⟨x7, 5, none⟩ (.slice q7.a4 f.nt q7.kt)) w.heap.size 29 _ from ((((((B3.out.far (p := ⟨x7, 0, none⟩) (by simp; omega) (.int .i64 f.W)).far (p := ⟨x7, 1, none⟩) (by simp; omega) (.int .i64 f.H)).far (p := ⟨x7, 2, none⟩) (by simp; omega) (.slice q7.ac f.nc q7.kc)).far (p := ⟨x7, 3, none⟩) (by simp; omega) (.slice q7.ad f.nd q7.kd)).far (p := ⟨x7, 4, none⟩) (by simp; omega) (.slice q7.ai f.ni q7.ki)).far (p := ⟨x7, 5, none⟩) (by simp; omega) (.slice q7.a4 f.nt q7.kt)))
          have B4n := Lib.hid (show HasBlk ((((((v7.setCell ⟨x7, 0, none⟩ (.int .i64 f.W)).setCell ⟨x7, 1, none⟩ (.int .i64 f.H)).setCell ⟨x7, 2, none⟩ (.slice q7.ac f.nc q7.kc)).setCell ⟨x7, 3, none⟩ (.slice q7.ad f.nd q7.kd)).setCell ⟨x7, 4, none⟩ (.slice q7.ai f.ni q7.ki)).setCell ⟨x7, 5, none⟩ (.slice q7.a4 f.nt q7.kt)) (w.heap.size + 1) 51 _ from ((((((B4.out.far (p := ⟨x7, 0, none⟩) (by simp; omega) (.int .i64 f.W)).far (p := ⟨x7, 1, none⟩) (by simp; omega) (.int .i64 f.H)).far (p := ⟨x7, 2, none⟩) (by simp; omega) (.slice q7.ac f.nc q7.kc)).far (p := ⟨x7, 3, none⟩) (by simp; omega) (.slice q7.ad f.nd q7.kd)).far (p := ⟨x7, 4, none⟩) (by simp; omega) (.slice q7.ai f.ni q7.ki)).far (p := ⟨x7, 5, none⟩) (by simp; omega) (.slice q7.a4 f.nt q7.kt)))
          have B5n := Lib.hid (show HasBlk ((((((v7.setCell ⟨x7, 0, none⟩ (.int .i64 f.W)).setCell ⟨x7, 1, none⟩ (.int .i64 f.H)).setCell ⟨x7, 2, none⟩ (.slice q7.ac f.nc q7.kc)).setCell ⟨x7, 3, none⟩ (.slice q7.ad f.nd q7.kd)).setCell ⟨x7, 4, none⟩ (.slice q7.ai f.ni q7.ki)).setCell ⟨x7, 5, none⟩ (.slice q7.a4 f.nt q7.kt)) (w.heap.size + 1 + 1) 55 _ from ((((((B5.out.far (p := ⟨x7, 0, none⟩) (by simp; omega) (.int .i64 f.W)).far (p := ⟨x7, 1, none⟩) (by simp; omega) (.int .i64 f.H)).far (p := ⟨x7, 2, none⟩) (by simp; omega) (.slice q7.ac f.nc q7.kc)).far (p := ⟨x7, 3, none⟩) (by simp; omega) (.slice q7.ad f.nd q7.kd)).far (p := ⟨x7, 4, none⟩) (by simp; omega) (.slice q7.ai f.ni q7.ki)).far (p := ⟨x7, 5, none⟩) (by simp; omega) (.slice q7.a4 f.nt q7.kt)))
          have HBn := Lib.hid (show Below w.heap.size w ((((((v7.setCell ⟨x7, 0, none⟩ (.int .i64 f.W)).setCell ⟨x7, 1, none⟩ (.int .i64 f.H)).setCell ⟨x7, 2, none⟩ (.slice q7.ac f.nc q7.kc)).setCell ⟨x7, 3, none⟩ (.slice q7.ad f.nd q7.kd)).setCell ⟨x7, 4, none⟩ (.slice q7.ai f.ni q7.ki)).setCell ⟨x7, 5, none⟩ (.slice q7.a4 f.nt q7.kt)) from (Below.setCell (p := ⟨x7, 5, none⟩) (Below.setCell (p := ⟨x7, 4, none⟩) (Below.setCell (p := ⟨x7, 3, none⟩) (Below.setCell (p := ⟨x7, 2, none⟩) (Below.setCell (p := ⟨x7, 1, none⟩) (Below.setCell (p := ⟨x7, 0, none⟩) HB.out (hl1) (.int .i64 f.W)) (hl1) (.int .i64 f.H)) (hl1) (.slice q7.ac f.nc q7.kc)) (hl1) (.slice q7.ad f.nd q7.kd)) (hl1) (.slice q7.ai f.ni q7.ki)) (hl1) (.slice q7.a4 f.nt q7.kt)))
          have O7n := Lib.hid (show FOwn w.heap.size ((((((v7.setCell ⟨x7, 0, none⟩ (.int .i64 f.W)).setCell ⟨x7, 1, none⟩ (.int .i64 f.H)).setCell ⟨x7, 2, none⟩ (.slice q7.ac f.nc q7.kc)).setCell ⟨x7, 3, none⟩ (.slice q7.ad f.nd q7.kd)).setCell ⟨x7, 4, none⟩ (.slice q7.ai f.ni q7.ki)).setCell ⟨x7, 5, none⟩ (.slice q7.a4 f.nt q7.kt)) q7 f from ((((((O7.out.pset (j := 0) Zx7.out (by decide) (by decide) (.int .i64 f.W)).pset (j := 1) (Zx7.out.set 0 (.int .i64 f.W)) (by decide) (by decide) (.int .i64 f.H)).pset (j := 2) ((Zx7.out.set 0 (.int .i64 f.W)).set 1 (.int .i64 f.H)) (by decide) (by decide) (.slice q7.ac f.nc q7.kc)).pset (j := 3) (((Zx7.out.set 0 (.int .i64 f.W)).set 1 (.int .i64 f.H)).set 2 (.slice q7.ac f.nc q7.kc)) (by decide) (by decide) (.slice q7.ad f.nd q7.kd)).pset (j := 4) ((((Zx7.out.set 0 (.int .i64 f.W)).set 1 (.int .i64 f.H)).set 2 (.slice q7.ac f.nc q7.kc)).set 3 (.slice q7.ad f.nd q7.kd)) (by decide) (by decide) (.slice q7.ai f.ni q7.ki)).pset (j := 5) (((((Zx7.out.set 0 (.int .i64 f.W)).set 1 (.int .i64 f.H)).set 2 (.slice q7.ac f.nc q7.kc)).set 3 (.slice q7.ad f.nd q7.kd)).set 4 (.slice q7.ai f.ni q7.ki)) (by decide) (by decide) (.slice q7.a4 f.nt q7.kt)))
          have O8n := Lib.hid (show POwn w.heap.size ((((((v7.setCell ⟨x7, 0, none⟩ (.int .i64 f.W)).setCell ⟨x7, 1, none⟩ (.int .i64 f.H)).setCell ⟨x7, 2, none⟩ (.slice q7.ac f.nc q7.kc)).setCell ⟨x7, 3, none⟩ (.slice q7.ad f.nd q7.kd)).setCell ⟨x7, 4, none⟩ (.slice q7.ai f.ni q7.ki)).setCell ⟨x7, 5, none⟩ (.slice q7.a4 f.nt q7.kt)) q8 d from ((((((O8.out.pset (j := 0) Zx7.out (by decide) (by decide) (.int .i64 f.W)).pset (j := 1) (Zx7.out.set 0 (.int .i64 f.W)) (by decide) (by decide) (.int .i64 f.H)).pset (j := 2) ((Zx7.out.set 0 (.int .i64 f.W)).set 1 (.int .i64 f.H)) (by decide) (by decide) (.slice q7.ac f.nc q7.kc)).pset (j := 3) (((Zx7.out.set 0 (.int .i64 f.W)).set 1 (.int .i64 f.H)).set 2 (.slice q7.ac f.nc q7.kc)) (by decide) (by decide) (.slice q7.ad f.nd q7.kd)).pset (j := 4) ((((Zx7.out.set 0 (.int .i64 f.W)).set 1 (.int .i64 f.H)).set 2 (.slice q7.ac f.nc q7.kc)).set 3 (.slice q7.ad f.nd q7.kd)) (by decide) (by decide) (.slice q7.ai f.ni q7.ki)).pset (j := 5) (((((Zx7.out.set 0 (.int .i64 f.W)).set 1 (.int .i64 f.H)).set 2 (.slice q7.ac f.nc q7.kc)).set 3 (.slice q7.ad f.nd q7.kd)).set 4 (.slice q7.ai f.ni q7.ki)) (by decide) (by decide) (.slice q7.a4 f.nt q7.kt)))
          clear Zx7 Zx8 B3 B4 B5 HB O7 O8 HS z0 zf0 z1 zf1 z2 zf2 z3 zf3 z4 zf4 z5 zf5 zz hl1 hl2
          have Zx7 := Lib.hid Zx7n.out
          have Zx8 := Lib.hid Zx8n.out
          have B3 := Lib.hid B3n.out
          have B4 := Lib.hid B4n.out
          have B5 := Lib.hid B5n.out
          have HB := Lib.hid HBn.out
          have O7 := Lib.hid O7n.out
          have O8 := Lib.hid O8n.out
          clear Zx7n Zx8n B3n B4n B5n HBn O7n O8n
          have HS := Lib.hid (show (fun Wo => HasBlk Wo w.heap.size 29 #[.int .i64 f.W, .int .i64 f.H, .slice p.ac f.nc p.kc, .slice p.ad f.nd p.kd, .slice p.ai f.ni p.ki, .slice p.a4 f.nt p.kt] ∧ HasBlk Wo (w.heap.size + 1) 51 #[.slice q.A d.n q.c]) ((((((v7.setCell ⟨x7, 0, none⟩ (.int .i64 f.W)).setCell ⟨x7, 1, none⟩ (.int .i64 f.H)).setCell ⟨x7, 2, none⟩ (.slice q7.ac f.nc q7.kc)).setCell ⟨x7, 3, none⟩ (.slice q7.ad f.nd q7.kd)).setCell ⟨x7, 4, none⟩ (.slice q7.ai f.ni q7.ki)).setCell ⟨x7, 5, none⟩ (.slice q7.a4 f.nt q7.kt)) from ⟨B3.out, B4.out⟩)
          refine HK _ _ (fun _ => HS.out) ?_
          clear HK
          generalize ((((((v7.setCell ⟨x7, 0, none⟩ (.int .i64 f.W)).setCell ⟨x7, 1, none⟩ (.int .i64 f.H)).setCell ⟨x7, 2, none⟩ (.slice q7.ac f.nc q7.kc)).setCell ⟨x7, 3, none⟩ (.slice q7.ad f.nd q7.kd)).setCell ⟨x7, 4, none⟩ (.slice q7.ai f.ni q7.ki)).setCell ⟨x7, 5, none⟩ (.slice q7.a4 f.nt q7.kt)) = va at *
          refine wpAnyE_step (i := 7) rfl (by kernel_rfl) (fun KQ HK => ?_)
          have z0 := Zx8.out.cell 0
          have zf0 := Zx8.out.frozen 0
          have zz := Zx8.out.lt
          simp at z0
          go_wp2
          have hl1 := Lx8.out.1
          have hl2 := Lx8.out.2
          have Zx8n := Lib.hid (show HasBlk (va.setCell ⟨x8, 0, none⟩ (.slice q8.A d.n q8.c)) x8 51 #[.slice q8.A d.n q8.c] by simpa using ((Zx8.out).set 0 (.slice q8.A d.n q8.c)))
          have Zx7n := Lib.hid (show HasBlk (va.setCell ⟨x8, 0, none⟩ (.slice q8.A d.n q8.c)) x7 29 _ from (Zx7.out.far (p := ⟨x8, 0, none⟩) (by simp; omega) (.slice q8.A d.n q8.c)))
          have B3n := Lib.hid (show HasBlk (va.setCell ⟨x8, 0, none⟩ (.slice q8.A d.n q8.c)) w.heap.size 29 _ from (B3.out.far (p := ⟨x8, 0, none⟩) (by simp; omega) (.slice q8.A d.n q8.c)))
          have B4n := Lib.hid (show HasBlk (va.setCell ⟨x8, 0, none⟩ (.slice q8.A d.n q8.c)) (w.heap.size + 1) 51 _ from (B4.out.far (p := ⟨x8, 0, none⟩) (by simp; omega) (.slice q8.A d.n q8.c)))
          have B5n := Lib.hid (show HasBlk (va.setCell ⟨x8, 0, none⟩ (.slice q8.A d.n q8.c)) (w.heap.size + 1 + 1) 55 _ from (B5.out.far (p := ⟨x8, 0, none⟩) (by simp; omega) (.slice q8.A d.n q8.c)))
          have HBn := Lib.hid (show Below w.heap.size w (va.setCell ⟨x8, 0, none⟩ (.slice q8.A d.n q8.c)) from (Below.setCell (p := ⟨x8, 0, none⟩) HB.out (hl1) (.slice q8.A d.n q8.c)))
          have O7n := Lib.hid (show FOwn w.heap.size (va.setCell ⟨x8, 0, none⟩ (.slice q8.A d.n q8.c)) q7 f from (O7.out.pset (j := 0) Zx8.out (by decide) (by decide) (.slice q8.A d.n q8.c)))
          have O8n := Lib.hid (show POwn w.heap.size (va.setCell ⟨x8, 0, none⟩ (.slice q8.A d.n q8.c)) q8 d from (O8.out.pset (j := 0) Zx8.out (by decide) (by decide) (.slice q8.A d.n q8.c)))
          clear Zx8 Zx7 B3 B4 B5 HB O7 O8 HS z0 zf0 zz hl1 hl2
          have Zx8 := Lib.hid Zx8n.out
          have Zx7 := Lib.hid Zx7n.out
          have B3 := Lib.hid B3n.out
          have B4 := Lib.hid B4n.out
          have B5 := Lib.hid B5n.out
          have HB := Lib.hid HBn.out
          have O7 := Lib.hid O7n.out
          have O8 := Lib.hid O8n.out
          clear Zx8n Zx7n B3n B4n B5n HBn O7n O8n
          have HS := Lib.hid (show (fun Wo => HasBlk Wo w.heap.size 29 #[.int .i64 f.W, .int .i64 f.H, .slice p.ac f.nc p.kc, .slice p.ad f.nd p.kd, .slice p.ai f.ni p.ki, .slice p.a4 f.nt p.kt] ∧ HasBlk Wo (w.heap.size + 1) 51 #[.slice q.A d.n q.c]) (va.setCell ⟨x8, 0, none⟩ (.slice q8.A d.n q8.c)) from ⟨B3.out, B4.out⟩)
          refine HK _ _ (fun _ => HS.out) ?_
          clear HK
          generalize (va.setCell ⟨x8, 0, none⟩ (.slice q8.A d.n q8.c)) = vb at *
          refine wpAnyE_done (by kernel_rfl) ?_
          go_wp2_with fail
          go_meet
          exact ⟨x7, x8, q7, q8, rfl, rfl, Zx7.out, Zx8.out, O7.out.ok, O8.out.ok, B3.out, B4.out, B5.out, HB.out⟩
      · go_wp2
        have hbel := (Below.refl v4.heap.size v4).alloc (Nat.le_refl _) (.cells #[.slice none 0 0] 51)
        have Zx8 := Lib.hid (hasBlk_new v4 51 #[.slice none 0 0])
        clear HS
        have Lx8 := Lib.hid (show w.heap.size ≤ v4.heap.size ∧ (w.heap.size + 1 + 1) < v4.heap.size from ⟨HB.out.size, B5.out.lt⟩)
        have B3' := Lib.hid (B3.out.below (hbel))
        have B4' := Lib.hid (B4.out.below (hbel))
        have B5' := Lib.hid (B5.out.below (hbel))
        have OF' := Lib.hid (OF.out.below (hbel))
        have OP' := Lib.hid (OP.out.below (hbel))
        have O7' := Lib.hid (O7.out.below (hbel))
        have HB' := Lib.hid (HB.out.trans ((hbel).mono HB.out.size))
        clear B3 B4 B5 OF OP O7 HB
        have B3 := Lib.hid B3'.out
        have B4 := Lib.hid B4'.out
        have B5 := Lib.hid B5'.out
        have OF := Lib.hid OF'.out
        have OP := Lib.hid OP'.out
        have O7 := Lib.hid O7'.out
        have HB := Lib.hid HB'.out
        clear B3' B4' B5' OF' OP' O7' HB'
        have HS := Lib.hid (show (fun Wo => HasBlk Wo w.heap.size 29 #[.int .i64 f.W, .int .i64 f.H, .slice p.ac f.nc p.kc, .slice p.ad f.nd p.kd, .slice p.ai f.ni p.ki, .slice p.a4 f.nt p.kt] ∧ HasBlk Wo (w.heap.size + 1) 51 #[.slice q.A d.n q.c]) (v4.alloc (.cells #[.slice none 0 0] 51)) from ⟨B3.out, B4.out⟩)
        clear hbel
        refine HK _ _ (fun _ => HS.out) ?_
        clear HK
        obtain ⟨x8, hx8⟩ : ∃ x8, x8 = v4.heap.size := ⟨_, rfl⟩
        rw [← hx8] at Zx8 Lx8 ⊢
        clear hx8
        generalize v4.alloc (.cells #[.slice none 0 0] 51) = v5 at *
        refine wpAnyE_two (i := 3) (j := 4) rfl rfl (by kernel_rfl) (fun KQ HK => ?_) (fun KQ HK => ?_)
        · have KX := Lib.hid (ptwin_any d q NP.out v5 OP.out)
          go_wp2_with fail
          refine KX.out.mono ?_
          rintro e v6 ⟨⟨q8, rfl, hown⟩, bel⟩
          have O8 := Lib.hid (hown.base HB.out.size)
          clear KX hown HS
          have B3' := Lib.hid (B3.out.below (bel))
          have B4' := Lib.hid (B4.out.below (bel))
          have B5' := Lib.hid (B5.out.below (bel))
          have OF' := Lib.hid (OF.out.below (bel))
          have OP' := Lib.hid (OP.out.below (bel))
          have O7' := Lib.hid (O7.out.below (bel))
          have Zx8' := Lib.hid (Zx8.out.below (bel))
          have HB' := Lib.hid (HB.out.trans ((bel).mono HB.out.size))
          clear B3 B4 B5 OF OP O7 Zx8 HB
          have B3 := Lib.hid B3'.out
          have B4 := Lib.hid B4'.out
          have B5 := Lib.hid B5'.out
          have OF := Lib.hid OF'.out
          have OP := Lib.hid OP'.out
          have O7 := Lib.hid O7'.out
          have Zx8 := Lib.hid Zx8'.out
          have HB := Lib.hid HB'.out
          clear B3' B4' B5' OF' OP' O7' Zx8' HB'
          clear bel
          have HS := Lib.hid (show (fun Wo => HasBlk Wo w.heap.size 29 #[.int .i64 f.W, .int .i64 f.H, .slice p.ac f.nc p.kc, .slice p.ad f.nd p.kd, .slice p.ai f.ni p.ki, .slice p.a4 f.nt p.kt] ∧ HasBlk Wo (w.heap.size + 1) 51 #[.slice q.A d.n q.c]) v6 from ⟨B3.out, B4.out⟩)
          go_wp2
          refine HK _ _ (fun _ => HS.out) ?_
          clear HK
          refine wpAnyE_step (i := 4) rfl (by kernel_rfl) (fun KQ HK => ?_)
          go_wp2
          have hbel := (Below.refl v6.heap.size v6).alloc (Nat.le_refl _) (.cells #[.int .i64 0, .int .i64 0, .slice none 0 0, .slice none 0 0, .slice none 0 0, .slice none 0 0] 29)
          have Zx7 := Lib.hid (hasBlk_new v6 29 #[.int .i64 0, .int .i64 0, .slice none 0 0, .slice none 0 0, .slice none 0 0, .slice none 0 0])
          clear HS
          have Lx7 := Lib.hid (show w.heap.size ≤ v6.heap.size ∧ (w.heap.size + 1 + 1) < v6.heap.size from ⟨HB.out.size, B5.out.lt⟩)
          have hne := Zx8.out.lt
          have B3' := Lib.hid (B3.out.below (hbel))
          have B4' := Lib.hid (B4.out.below (hbel))
          have B5' := Lib.hid (B5.out.below (hbel))
          have OF' := Lib.hid (OF.out.below (hbel))
          have OP' := Lib.hid (OP.out.below (hbel))
          have O7' := Lib.hid (O7.out.below (hbel))
          have Zx8' := Lib.hid (Zx8.out.below (hbel))
          have O8' := Lib.hid (O8.out.below (hbel))
          have HB' := Lib.hid (HB.out.trans ((hbel).mono HB.out.size))
          clear B3 B4 B5 OF OP O7 Zx8 O8 HB
          have B3 := Lib.hid B3'.out
          have B4 := Lib.hid B4'.out
          have B5 := Lib.hid B5'.out
          have OF := Lib.hid OF'.out
          have OP := Lib.hid OP'.out
          have O7 := Lib.hid O7'.out
          have Zx8 := Lib.hid Zx8'.out
          have O8 := Lib.hid O8'.out
          have HB := Lib.hid HB'.out
          clear B3' B4' B5' OF' OP' O7' Zx8' O8' HB'
          have HS := Lib.hid (show (fun Wo => HasBlk Wo w.heap.size 29 #[.int .i64 f.W, .int .i64 f.H, .slice p.ac f.nc p.kc, .slice p.ad f.nd p.kd, .slice p.ai f.ni p.ki, .slice p.a4 f.nt p.kt] ∧ HasBlk Wo (w.heap.size + 1) 51 #[.slice q.A d.n q.c]) (v6.alloc (.cells #[.int .i64 0, .int .i64 0, .slice none 0 0, .slice none 0 0, .slice none 0 0, .slice none 0 0] 29)) from ⟨B3.out, B4.out⟩)
          clear hbel
          refine HK _ _ (fun _ => HS.out) ?_
          clear HK
          obtain ⟨x7, hx7⟩ : ∃ x7, x7 = v6.heap.size := ⟨_, rfl⟩
          rw [← hx7] at Zx7 Lx7 ⊢
          rw [← hx7] at hne
          clear hx7
          generalize v6.alloc (.cells #[.int .i64 0, .int .i64 0, .slice none 0 0, .slice none 0 0, .slice none 0 0, .slice none 0 0] 29) = v7 at *
          refine wpAnyE_step (i := 6) rfl (by kernel_rfl) (fun KQ HK => ?_)
          have z0 := Zx7.out.cell 0
          have zf0 := Zx7.out.frozen 0
          have z1 := Zx7.out.cell 1
          have zf1 := Zx7.out.frozen 1
          have z2 := Zx7.out.cell 2
          have zf2 := Zx7.out.frozen 2
          have z3 := Zx7.out.cell 3
          have zf3 := Zx7.out.frozen 3
          have z4 := Zx7.out.cell 4
          have zf4 := Zx7.out.frozen 4
          have z5 := Zx7.out.cell 5
          have zf5 := Zx7.out.frozen 5
          have zz := Zx7.out.lt
          simp at z0 z1 z2 z3 z4 z5
          go_wp2
          have hl1 := Lx7.out.1
          have hl2 := Lx7.out.2
          have Zx7n := Lib.hid (show HasBlk ((((((v7.setCell ⟨x7, 0, none⟩ (.int .i64 f.W)).setCell ⟨x7, 1, none⟩ (.int .i64 f.H)).setCell ⟨x7, 2, none⟩ (.slice q7.ac f.nc q7.kc)).setCell ⟨x7, 3, none⟩ (.slice q7.ad f.nd q7.kd)).setCell ⟨x7, 4, none⟩ (.slice q7.ai f.ni q7.ki)).setCell ⟨x7, 5, none⟩ (.slice q7.a4 f.nt q7.kt)) x7 29 #[.int .i64 f.W, .int .i64 f.H, .slice q7.ac f.nc q7.kc, .slice q7.ad f.nd q7.kd, .slice q7.ai f.ni q7.ki, .slice q7.a4 f.nt q7.kt] by simpa using ((((((((((((Zx7.out).set 0 (.int .i64 f.W))).set 1 (.int .i64 f.H))).set 2 (.slice q7.ac f.nc q7.kc))).set 3 (.slice q7.ad f.nd q7.kd))).set 4 (.slice q7.ai f.ni q7.ki))).set 5 (.slice q7.a4 f.nt q7.kt)))
          have Zx8n := Lib.hid (show HasBlk ((((((v7.setCell ⟨x7, 0, none⟩ (.int .i64 f.W)).setCell ⟨x7, 1, none⟩ (.int .i64 f.H)).setCell ⟨x7, 2, none⟩ (.slice q7.ac f.nc q7.kc)).setCell ⟨x7, 3, none⟩ (.slice q7.ad f.nd q7.kd)).setCell ⟨x7, 4, none⟩ (.slice q7.ai f.ni q7.ki)).setCell ⟨x7, 5, none⟩ (.slice q7.a4 f.nt q7.kt)) x8 51 _ from ((((((Zx8.out.far (p := ⟨x7, 0, none⟩) (by simp; omega) (.int .i64 f.W)).far (p := ⟨x7, 1, none⟩) (by simp; omega) (.int .i64 f.H)).far (p := ⟨x7, 2, none⟩) (by simp; omega) (.slice q7.ac f.nc q7.kc)).far (p := ⟨x7, 3, none⟩) (by simp; omega) (.slice q7.ad f.nd q7.kd)).far (p := ⟨x7, 4, none⟩) (by simp; omega) (.slice q7.ai f.ni q7.ki)).far (p := ⟨x7, 5, none⟩) (by simp; omega) (.slice q7.a4 f.nt q7.kt)))
          have B3n := Lib.hid (show HasBlk ((((((v7.setCell ⟨x7, 0, none⟩ (.int .i64 f.W)).setCell ⟨x7, 1, none⟩ (.int .i64 f.H)).setCell ⟨x7, 2, none⟩ (.slice q7.ac f.nc q7.kc)).setCell ⟨x7, 3, none⟩ (.slice q7.ad f.nd q7.kd)).setCell ⟨x7, 4, none⟩ (.slice q7.ai f.ni q7.ki)).setCell ⟨x7, 5, none⟩ (.slice q7.a4 f.nt q7.kt)) w.heap.size 29 _ from ((((((B3.out.far (p := ⟨x7, 0, none⟩) (by simp; omega) (.int .i64 f.W)).far (p := ⟨x7, 1, none⟩) (by simp; omega) (.int .i64 f.H)).far (p := ⟨x7, 2, none⟩) (by simp; omega) (.slice q7.ac f.nc q7.kc)).far (p := ⟨x7, 3, none⟩) (by simp; omega) (.slice q7.ad f.nd q7.kd)).far (p := ⟨x7, 4, none⟩) (by simp; omega) (.slice q7.ai f.ni q7.ki)).far (p := ⟨x7, 5, none⟩) (by simp; omega) (.slice q7.a4 f.nt q7.kt)))
          have B4n := Lib.hid (show HasBlk ((((((v7.setCell ⟨x7, 0, none⟩ (.int .i64 f.W)).setCell ⟨x7, 1, none⟩ (.int .i64 f.H)).setCell ⟨x7, 2, none⟩ (.slice q7.ac f.nc q7.kc)).setCell ⟨x7, 3, none⟩ (.slice q7.ad f.nd q7.kd)).setCell ⟨x7, 4, none⟩ (.slice q7.ai f.ni q7.ki)).setCell ⟨x7, 5, none⟩ (.slice q7.a4 f.nt q7.kt)) (w.heap.size + 1) 51 _ from ((((((B4.out.far (p := ⟨x7, 0, none⟩) (by simp; omega) (.int .i64 f.W)).far (p := ⟨x7, 1, none⟩) (by simp; omega) (.int .i64 f.H)).far (p := ⟨x7, 2, none⟩) (by simp; omega) (.slice q7.ac f.nc q7.kc)).far (p := ⟨x7, 3, none⟩) (by simp; omega) (.slice q7.ad f.nd q7.kd)).far (p := ⟨x7, 4, none⟩) (by simp; omega) (.slice q7.ai f.ni q7.ki)).far (p := ⟨x7, 5, none⟩) (by simp; omega) (.slice q7.a4 f.nt q7.kt)))
          have B5n := Lib.hid (show HasBlk ((((((v7.setCell ⟨x7, 0, none⟩ (.int .i64 f.W)).setCell ⟨x7, 1, none⟩ (.int .i64 f.H)).setCell ⟨x7, 2, none⟩ (.slice q7.ac f.nc q7.kc)).setCell ⟨x7, 3, none⟩ (.slice q7.ad f.nd q7.kd)).setCell ⟨x7, 4, none⟩ (.slice q7.ai f.ni q7.ki)).setCell ⟨x7, 5, none⟩ (.slice q7.a4 f.nt q7.kt)) (w.heap.size + 1 + 1) 55 _ from ((((((B5.out.far (p := ⟨x7, 0, none⟩) (by simp; omega) (.int .i64 f.W)).far (p := ⟨x7, 1, none⟩) (by simp; omega) (.int .i64 f.H)).far (p := ⟨x7, 2, none⟩) (by simp; omega) (.slice q7.ac f.nc q7.kc)).far (p := ⟨x7, 3, none⟩) (by simp; omega) (.slice q7.ad f.nd q7.kd)).far (p := ⟨x7, 4, none⟩) (by simp; omega) (.slice q7.ai f.ni q7.ki)).far (p := ⟨x7, 5, none⟩) (by simp; omega) (.slice q7.a4 f.nt q7.kt)))
          have HBn := Lib.hid (show Below w.heap.size w ((((((v7.setCell ⟨x7, 0, none⟩ (.int .i64 f.W)).setCell ⟨x7, 1, none⟩ (.int .i64 f.H)).setCell ⟨x7, 2, none⟩ (.slice q7.ac f.nc q7.kc)).setCell ⟨x7, 3, none⟩ (.slice q7.ad f.nd q7.kd)).setCell ⟨x7, 4, none⟩ (.slice q7.ai f.ni q7.ki)).setCell ⟨x7, 5, none⟩ (.slice q7.a4 f.nt q7.kt)) from (Below.setCell (p := ⟨x7, 5, none⟩) (Below.setCell (p := ⟨x7, 4, none⟩) (Below.setCell (p := ⟨x7, 3, none⟩) (Below.setCell (p := ⟨x7, 2, none⟩) (Below.setCell (p := ⟨x7, 1, none⟩) (Below.setCell (p := ⟨x7, 0, none⟩) HB.out (hl1) (.int .i64 f.W)) (hl1) (.int .i64 f.H)) (hl1) (.slice q7.ac f.nc q7.kc)) (hl1) (.slice q7.ad f.nd q7.kd)) (hl1) (.slice q7.ai f.ni q7.ki)) (hl1) (.slice q7.a4 f.nt q7.kt)))
          have O7n := Lib.hid (show FOwn w.heap.size ((((((v7.setCell ⟨x7, 0, none⟩ (.int .i64 f.W)).setCell ⟨x7, 1, none⟩ (.int .i64 f.H)).setCell ⟨x7, 2, none⟩ (.slice q7.ac f.nc q7.kc)).setCell ⟨x7, 3, none⟩ (.slice q7.ad f.nd q7.kd)).setCell ⟨x7, 4, none⟩ (.slice q7.ai f.ni q7.ki)).setCell ⟨x7, 5, none⟩ (.slice q7.a4 f.nt q7.kt)) q7 f from ((((((O7.out.pset (j := 0) Zx7.out (by decide) (by decide) (.int .i64 f.W)).pset (j := 1) (Zx7.out.set 0 (.int .i64 f.W)) (by decide) (by decide) (.int .i64 f.H)).pset (j := 2) ((Zx7.out.set 0 (.int .i64 f.W)).set 1 (.int .i64 f.H)) (by decide) (by decide) (.slice q7.ac f.nc q7.kc)).pset (j := 3) (((Zx7.out.set 0 (.int .i64 f.W)).set 1 (.int .i64 f.H)).set 2 (.slice q7.ac f.nc q7.kc)) (by decide) (by decide) (.slice q7.ad f.nd q7.kd)).pset (j := 4) ((((Zx7.out.set 0 (.int .i64 f.W)).set 1 (.int .i64 f.H)).set 2 (.slice q7.ac f.nc q7.kc)).set 3 (.slice q7.ad f.nd q7.kd)) (by decide) (by decide) (.slice q7.ai f.ni q7.ki)).pset (j := 5) (((((Zx7.out.set 0 (.int .i64 f.W)).set 1 (.int .i64 f.H)).set 2 (.slice q7.ac f.nc q7.kc)).set 3 (.slice q7.ad f.nd q7.kd)).set 4 (.slice q7.ai f.ni q7.ki)) (by decide) (by decide) (.slice q7.a4 f.nt q7.kt)))
          have O8n := Lib.hid (show POwn w.heap.size ((((((v7.setCell ⟨x7, 0, none⟩ (.int .i64 f.W)).setCell ⟨x7, 1, none⟩ (.int .i64 f.H)).setCell ⟨x7, 2, none⟩ (.slice q7.ac f.nc q7.kc)).setCell ⟨x7, 3, none⟩ (.slice q7.ad f.nd q7.kd)).setCell ⟨x7, 4, none⟩ (.slice q7.ai f.ni q7.ki)).setCell ⟨x7, 5, none⟩ (.slice q7.a4 f.nt q7.kt)) q8 d from ((((((O8.out.pset (j := 0) Zx7.out (by decide) (by decide) (.int .i64 f.W)).pset (j := 1) (Zx7.out.set 0 (.int .i64 f.W)) (by decide) (by decide) (.int .i64 f.H)).pset (j := 2) ((Zx7.out.set 0 (.int .i64 f.W)).set 1 (.int .i64 f.H)) (by decide) (by decide) (.slice q7.ac f.nc q7.kc)).pset (j := 3) (((Zx7.out.set 0 (.int .i64 f.W)).set 1 (.int .i64 f.H)).set 2 (.slice q7.ac f.nc q7.kc)) (by decide) (by decide) (.slice q7.ad f.nd q7.kd)).pset (j := 4) ((((Zx7.out.set 0 (.int .i64 f.W)).set 1 (.int .i64 f.H)).set 2 (.slice q7.ac f.nc q7.kc)).set 3 (.slice q7.ad f.nd q7.kd)) (by decide) (by decide) (.slice q7.ai f.ni q7.ki)).pset (j := 5) (((((Zx7.out.set 0 (.int .i64 f.W)).set 1 (.int .i64 f.H)).set 2 (.slice q7.ac f.nc q7.kc)).set 3 (.slice q7.ad f.nd q7.kd)).set 4 (.slice q7.ai f.ni q7.ki)) (by decide) (by decide) (.slice q7.a4 f.nt q7.kt)))
          clear Zx7 Zx8 B3 B4 B5 HB O7 O8 HS z0 zf0 z1 zf1 z2 zf2 z3 zf3 z4 zf4 z5 zf5 zz hl1 hl2
          have Zx7 := Lib.hid Zx7n.out
          have Zx8 := Lib.hid Zx8n.out
          have B3 := Lib.hid B3n.out
          have B4 := Lib.hid B4n.out
          have B5 := Lib.hid B5n.out
          have HB := Lib.hid HBn.out
          have O7 := Lib.hid O7n.out
          have O8 := Lib.hid O8n.out
          clear Zx7n Zx8n B3n B4n B5n HBn O7n O8n
          have HS := Lib.hid (show (fun Wo => HasBlk Wo w.heap.size 29 #[.int .i64 f.W, .int .i64 f.H, .slice p.ac f.nc p.kc, .slice p.ad f.nd p.kd, .slice p.ai f.ni p.ki, .slice p.a4 f.nt p.kt] ∧ HasBlk Wo (w.heap.size + 1) 51 #[.slice q.A d.n q.c]) ((((((v7.setCell ⟨x7, 0, none⟩ (.int .i64 f.W)).setCell ⟨x7, 1, none⟩ (.int .i64 f.H)).setCell ⟨x7, 2, none⟩ (.slice q7.ac f.nc q7.kc)).setCell ⟨x7, 3, none⟩ (.slice q7.ad f.nd q7.kd)).setCell ⟨x7, 4, none⟩ (.slice q7.ai f.ni q7.ki)).setCell ⟨x7, 5, none⟩ (.slice q7.a4 f.nt q7.kt)) from ⟨B3.out, B4.out⟩)
          refine HK _ _ (fun _ => HS.out) ?_
          clear HK
          generalize ((((((v7.setCell ⟨x7, 0, none⟩ (.int .i64 f.W)).setCell ⟨x7, 1, none⟩ (.int .i64 f.H)).setCell ⟨x7, 2, none⟩ (.slice q7.ac f.nc q7.kc)).setCell ⟨x7, 3, none⟩ (.slice q7.ad f.nd q7.kd)).setCell ⟨x7, 4, none⟩ (.slice q7.ai f.ni q7.ki)).setCell ⟨x7, 5, none⟩ (.slice q7.a4 f.nt q7.kt)) = va at *
          refine wpAnyE_step (i := 7) rfl (by kernel_rfl) (fun KQ HK => ?_)
          have z0 := Zx8.out.cell 0
          have zf0 := Zx8.out.frozen 0
          have zz := Zx8.out.lt
          simp at z0
          go_wp2
          have hl1 := Lx8.out.1
          have hl2 := Lx8.out.2
          have Zx8n := Lib.hid (show HasBlk (va.setCell ⟨x8, 0, none⟩ (.slice q8.A d.n q8.c)) x8 51 #[.slice q8.A d.n q8.c] by simpa using ((Zx8.out).set 0 (.slice q8.A d.n q8.c)))
          have Zx7n := Lib.hid (show HasBlk (va.setCell ⟨x8, 0, none⟩ (.slice q8.A d.n q8.c)) x7 29 _ from (Zx7.out.far (p := ⟨x8, 0, none⟩) (by simp; omega) (.slice q8.A d.n q8.c)))
          have B3n := Lib.hid (show HasBlk (va.setCell ⟨x8, 0, none⟩ (.slice q8.A d.n q8.c)) w.heap.size 29 _ from (B3.out.far (p := ⟨x8, 0, none⟩) (by simp; omega) (.slice q8.A d.n q8.c)))
          have B4n := Lib.hid (show HasBlk (va.setCell ⟨x8, 0, none⟩ (.slice q8.A d.n q8.c)) (w.heap.size + 1) 51 _ from (B4.out.far (p := ⟨x8, 0, none⟩) (by simp; omega) (.slice q8.A d.n q8.c)))
          have B5n := Lib.hid (show HasBlk (va.setCell ⟨x8, 0, none⟩ (.slice q8.A d.n q8.c)) (w.heap.size + 1 + 1) 55 _ from (B5.out.far (p := ⟨x8, 0, none⟩) (by simp; omega) (.slice q8.A d.n q8.c)))
          have HBn := Lib.hid (show Below w.heap.size w (va.setCell ⟨x8, 0, none⟩ (.slice q8.A d.n q8.c)) from (Below.setCell (p := ⟨x8, 0, none⟩) HB.out (hl1) (.slice q8.A d.n q8.c)))
          have O7n := Lib.hid (show FOwn w.heap.size (va.setCell ⟨x8, 0, none⟩ (.slice q8.A d.n q8.c)) q7 f from (O7.out.pset (j := 0) Zx8.out (by decide) (by decide) (.slice q8.A d.n q8.c)))
          have O8n := Lib.hid (show POwn w.heap.size (va.setCell ⟨x8, 0, none⟩ (.slice q8.A d.n q8.c)) q8 d from (O8.out.pset (j := 0) Zx8.out (by decide) (by decide) (.slice q8.A d.n q8.c)))
          clear Zx8 Zx7 B3 B4 B5 HB O7 O8 HS z0 zf0 zz hl1 hl2
          have Zx8 := Lib.hid Zx8n.out
          have Zx7 := Lib.hid Zx7n.out
          have B3 := Lib.hid B3n.out
          have B4 := Lib.hid B4n.out
          have B5 := Lib.hid B5n.out
          have HB := Lib.hid HBn.out
          have O7 := Lib.hid O7n.out
          have O8 := Lib.hid O8n.out
          clear Zx8n Zx7n B3n B4n B5n HBn O7n O8n
          have HS := Lib.hid (show (fun Wo => HasBlk Wo w.heap.size 29 #[.int .i64 f.W, .int .i64 f.H, .slice p.ac f.nc p.kc, .slice p.ad f.nd p.kd, .slice p.ai f.ni p.ki, .slice p.a4 f.nt p.kt] ∧ HasBlk Wo (w.heap.size + 1) 51 #[.slice q.A d.n q.c]) (va.setCell ⟨x8, 0, none⟩ (.slice q8.A d.n q8.c)) from ⟨B3.out, B4.out⟩)
          refine HK _ _ (fun _ => HS.out) ?_
          clear HK
          generalize (va.setCell ⟨x8, 0, none⟩ (.slice q8.A d.n q8.c)) = vb at *
          refine wpAnyE_done (by kernel_rfl) ?_
          go_wp2_with fail
          go_meet
          exact ⟨x7, x8, q7, q8, rfl, rfl, Zx7.out, Zx8.out, O7.out.ok, O8.out.ok, B3.out, B4.out, B5.out, HB.out⟩
        · go_wp2
          have hbel := (Below.refl v5.heap.size v5).alloc (Nat.le_refl _) (.cells #[.int .i64 0, .int .i64 0, .slice none 0 0, .slice none 0 0, .slice none 0 0, .slice none 0 0] 29)
          have Zx7 := Lib.hid (hasBlk_new v5 29 #[.int .i64 0, .int .i64 0, .slice none 0 0, .slice none 0 0, .slice none 0 0, .slice none 0 0])
          clear HS
          have Lx7 := Lib.hid (show w.heap.size ≤ v5.heap.size ∧ (w.heap.size + 1 + 1) < v5.heap.size from ⟨HB.out.size, B5.out.lt⟩)
          have hne := Zx8.out.lt
          have B3' := Lib.hid (B3.out.below (hbel))
          have B4' := Lib.hid (B4.out.below (hbel))
          have B5' := Lib.hid (B5.out.below (hbel))
          have OF' := Lib.hid (OF.out.below (hbel))
          have OP' := Lib.hid (OP.out.below (hbel))
          have O7' := Lib.hid (O7.out.below (hbel))
          have Zx8' := Lib.hid (Zx8.out.below (hbel))
          have HB' := Lib.hid (HB.out.trans ((hbel).mono HB.out.size))
          clear B3 B4 B5 OF OP O7 Zx8 HB
          have B3 := Lib.hid B3'.out
          have B4 := Lib.hid B4'.out
          have B5 := Lib.hid B5'.out
          have OF := Lib.hid OF'.out
          have OP := Lib.hid OP'.out
          have O7 := Lib.hid O7'.out
          have Zx8 := Lib.hid Zx8'.out
          have HB := Lib.hid HB'.out
          clear B3' B4' B5' OF' OP' O7' Zx8' HB'
          have HS := Lib.hid (show (fun Wo => HasBlk Wo w.heap.size 29 #[.int .i64 f.W, .int .i64 f.H, .slice p.ac f.nc p.kc, .slice p.ad f.nd p.kd, .slice p.ai f.ni p.ki, .slice p.a4 f.nt p.kt] ∧ HasBlk Wo (w.heap.size + 1) 51 #[.slice q.A d.n q.c]) (v5.alloc (.cells #[.int .i64 0, .int .i64 0, .slice none 0 0, .slice none 0 0, .slice none 0 0, .slice none 0 0] 29)) from ⟨B3.out, B4.out⟩)
          clear hbel
          refine HK _ _ (fun _ => HS.out) ?_
          clear HK
          obtain ⟨x7, hx7⟩ : ∃ x7, x7 = v5.heap.size := ⟨_, rfl⟩
          rw [← hx7] at Zx7 Lx7 ⊢
          rw [← hx7] at hne
          clear hx7
          generalize v5.alloc (.cells #[.int .i64 0, .int .i64 0, .slice none 0 0, .slice none 0 0, .slice none 0 0, .slice none 0 0] 29) = v6 at *
          refine wpAnyE_step (i := 3) rfl (by kernel_rfl) (fun KQ HK => ?_)
          have KX := Lib.hid (ptwin_any d q NP.out v6 OP.out)
          go_wp2_with fail
          refine KX.out.mono ?_
          rintro e v7 ⟨⟨q8, rfl, hown⟩, bel⟩
          have O8 := Lib.hid (hown.base HB.out.size)
          clear KX hown HS
          have B3' := Lib.hid (B3.out.below (bel))
          have B4' := Lib.hid (B4.out.below (bel))
          have B5' := Lib.hid (B5.out.below (bel))
          have OF' := Lib.hid (OF.out.below (bel))
          have OP' := Lib.hid (OP.out.below (bel))
          have O7' := Lib.hid (O7.out.below (bel))
          have Zx8' := Lib.hid (Zx8.out.below (bel))
          have Zx7' := Lib.hid (Zx7.out.below (bel))
          have HB' := Lib.hid (HB.out.trans ((bel).mono HB.out.size))
          clear B3 B4 B5 OF OP O7 Zx8 Zx7 HB
          have B3 := Lib.hid B3'.out
          have B4 := Lib.hid B4'.out
          have B5 := Lib.hid B5'.out
          have OF := Lib.hid OF'.out
          have OP := Lib.hid OP'.out
          have O7 := Lib.hid O7'.out
          have Zx8 := Lib.hid Zx8'.out
          have Zx7 := Lib.hid Zx7'.out
          have HB := Lib.hid HB'.out
          clear B3' B4' B5' OF' OP' O7' Zx8' Zx7' HB'
          clear bel
          have HS := Lib.hid (show (fun Wo => HasBlk Wo w.heap.size 29 #[.int .i64 f.W, .int .i64 f.H, .slice p.ac f.nc p.kc, .slice p.ad f.nd p.kd, .slice p.ai f.ni p.ki, .slice p.a4 f.nt p.kt] ∧ HasBlk Wo (w.heap.size + 1) 51 #[.slice q.A d.n q.c]) v7 from ⟨B3.out, B4.out⟩)
          go_wp2
          refine HK _ _ (fun _ => HS.out) ?_
          clear HK
          refine wpAnyE_step (i := 6) rfl (by kernel_rfl) (fun KQ HK => ?_)
          have z0 := Zx7.out.cell 0
          have zf0 := Zx7.out.frozen 0
          have z1 := Zx7.out.cell 1
          have zf1 := Zx7.out.frozen 1
          have z2 := Zx7.out.cell 2
          have zf2 := Zx7.out.frozen 2
          have z3 := Zx7.out.cell 3
          have zf3 := Zx7.out.frozen 3
          have z4 := Zx7.out.cell 4
          have zf4 := Zx7.out.frozen 4
          have z5 := Zx7.out.cell 5
          have zf5 := Zx7.out.frozen 5
          have zz := Zx7.out.lt
          simp at z0 z1 z2 z3 z4 z5
          go_wp2
          have hl1 := Lx7.out.1
          have hl2 := Lx7.out.2
          have Zx7n := Lib.hid (show HasBlk ((((((v7.setCell ⟨x7, 0, none⟩ (.int .i64 f.W)).setCell ⟨x7, 1, none⟩ (.int .i64 f.H)).setCell ⟨x7, 2, none⟩ (.slice q7.ac f.nc q7.kc)).setCell ⟨x7, 3, none⟩ (.slice q7.ad f.nd q7.kd)).setCell ⟨x7, 4, none⟩ (.slice q7.ai f.ni q7.ki)).setCell ⟨x7, 5, none⟩ (.slice q7.a4 f.nt q7.kt)) x7 29 #[.int .i64 f.W, .int .i64 f.H, .slice q7.ac f.nc q7.kc, .slice q7.ad f.nd q7.kd, .slice q7.ai f.ni q7.ki, .slice q7.a4 f.nt q7.kt] by simpa using ((((((((((((Zx7.out).set 0 (.int .i64 f.W))).set 1 (.int .i64 f.H))).set 2 (.slice q7.ac f.nc q7.kc))).set 3 (.slice q7.ad f.nd q7.kd))).set 4 (.slice q7.ai f.ni q7.ki))).set 5 (.slice q7.a4 f.nt q7.kt)))
          have Zx8n := Lib.hid (show HasBlk ((((((v7.setCell ⟨x7, 0, none⟩ (.int .i64 f.W)).setCell ⟨x7, 1, none⟩ (.int .i64 f.H)).setCell ⟨x7, 2, none⟩ (.slice q7.ac f.nc q7.kc)).setCell ⟨x7, 3, none⟩ (.slice q7.ad f.nd q7.kd)).setCell ⟨x7, 4, none⟩ (.slice q7.ai f.ni q7.ki)).setCell ⟨x7, 5, none⟩ (.slice q7.a4 f.nt q7.kt)) x8 51 _ from ((((((Zx8.out.far (p := ⟨x7, 0, none⟩) (by simp; omega) (.int .i64 f.W)).far (p := ⟨x7, 1, none⟩) (by simp; omega) (.int .i64 f.H)).far (p := ⟨x7, 2, none⟩) (by simp; omega) (.slice q7.ac f.nc q7.kc)).far (p := ⟨x7, 3, none⟩) (by simp; omega) (.slice q7.ad f.nd q7.kd)).far (p := ⟨x7, 4, none⟩) (by simp; omega) (.slice q7.ai f.ni q7.ki)).far (p := ⟨x7, 5, none⟩) (by simp; omega) (.slice q7.a4 f.nt q7.kt)))
          have B3n := Lib.hid (show HasBlk ((((((v7.setCell ⟨x7, 0, none⟩ (.int .i64 f.W)).setCell ⟨x7, 1, none⟩ (.int .i64 f.H)).setCell ⟨x7, 2, none⟩ (.slice q7.ac f.nc q7.kc)).setCell ⟨x7, 3, none⟩ (.slice q7.ad f.nd q7.kd)).setCell ⟨x7, 4, none⟩ (.slice q7.ai f.ni q7.ki)).setCell ⟨x7, 5, none⟩ (.slice q7.a4 f.nt q7.kt)) w.heap.size 29 _ from ((((((B3.out.far (p := ⟨x7, 0, none⟩) (by simp; omega) (.int .i64 f.W)).far (p := ⟨x7, 1, none⟩) (by simp; omega) (.int .i64 f.H)).far (p := ⟨x7, 2, none⟩) (by simp; omega) (.slice q7.ac f.nc q7.kc)).far (p := ⟨x7, 3, none⟩) (by simp; omega) (.slice q7.ad f.nd q7.kd)).far (p := ⟨x7, 4, none⟩) (by simp; omega) (.slice q7.ai f.ni q7.ki)).far (p := ⟨x7, 5, none⟩) (by simp; omega) (.slice q7.a4 f.nt q7.kt)))
          have B4n := Lib.hid (show HasBlk ((((((v7.setCell ⟨x7, 0, none⟩ (.int .i64 f.W)).setCell ⟨x7, 1, none⟩ (.int .i64 f.H)).setCell ⟨x7, 2, none⟩ (.slice q7.ac f.nc q7.kc)).setCell ⟨x7, 3, none⟩ (.slice q7.ad f.nd q7.kd)).setCell ⟨x7, 4, none⟩ (.slice q7.ai f.ni q7.ki)).setCell ⟨x7, 5, none⟩ (.slice q7.a4 f.nt q7.kt)) (w.heap.size + 1) 51 _ from ((((((B4.out.far (p := ⟨x7, 0, none⟩) (by simp; omega) (.int .i64 f.W)).far (p := ⟨x7, 1, none⟩) (by simp; omega) (.int .i64 f.H)).far (p := ⟨x7, 2, none⟩) (by simp; omega) (.slice q7.ac f.nc q7.kc)).far (p := ⟨x7, 3, none⟩) (by simp; omega) (.slice q7.ad f.nd q7.kd)).far (p := ⟨x7, 4, none⟩) (by simp; omega) (.slice q7.ai f.ni q7.ki)).far (p := ⟨x7, 5, none⟩) (by simp; omega) (.slice q7.a4 f.nt q7.kt)))
          have B5n := Lib.hid (show HasBlk ((((((v7.setCell ⟨x7, 0, none⟩ (.int .i64 f.W)).setCell ⟨x7, 1, none⟩ (.int .i64 f.H)).setCell ⟨x7, 2, none⟩ (.slice q7.ac f.nc q7.kc)).setCell ⟨x7, 3, none⟩ (.slice q7.ad f.nd q7.kd)).setCell ⟨x7, 4, none⟩ (.slice q7.ai f.ni q7.ki)).setCell ⟨x7, 5, none⟩ (.slice q7.a4 f.nt q7.kt)) (w.heap.size + 1 + 1) 55 _ from ((((((B5.out.far (p := ⟨x7, 0, none⟩) (by simp; omega) (.int .i64 f.W)).far (p := ⟨x7, 1, none⟩) (by simp; omega) (.int .i64 f.H)).far (p := ⟨x7, 2, none⟩) (by simp; omega) (.slice q7.ac f.nc q7.kc)).far (p := ⟨x7, 3, none⟩) (by simp; omega) (.slice q7.ad f.nd q7.kd)).far (p := ⟨x7, 4, none⟩) (by simp; omega) (.slice q7.ai f.ni q7.ki)).far (p := ⟨x7, 5, none⟩) (by simp; omega) (.slice q7.a4 f.nt q7.kt)))
          have HBn := Lib.hid (show Below w.heap.size w ((((((v7.setCell ⟨x7, 0, none⟩ (.int .i64 f.W)).setCell ⟨x7, 1, none⟩ (.int .i64 f.H)).setCell ⟨x7, 2, none⟩ (.slice q7.ac f.nc q7.kc)).setCell ⟨x7, 3, none⟩ (.slice q7.ad f.nd q7.kd)).setCell ⟨x7, 4, none⟩ (.slice q7.ai f.ni q7.ki)).setCell ⟨x7, 5, none⟩ (.slice q7.a4 f.nt q7.kt)) from (Below.setCell (p := ⟨x7, 5, none⟩) (Below.setCell (p := ⟨x7, 4, none⟩) (Below.setCell (p := ⟨x7, 3, none⟩) (Below.setCell (p := ⟨x7, 2, none⟩) (Below.setCell (p := ⟨x7, 1, none⟩) (Below.setCell (p := ⟨x7, 0, none⟩) HB.out (hl1) (.int .i64 f.W)) (hl1) (.int .i64 f.H)) (hl1) (.slice q7.ac f.nc q7.kc)) (hl1) (.slice q7.ad f.nd q7.kd)) (hl1) (.slice q7.ai f.ni q7.ki)) (hl1) (.slice q7.a4 f.nt q7.kt)))
          have O7n := Lib.hid (show FOwn w.heap.size ((((((v7.setCell ⟨x7, 0, none⟩ (.int .i64 f.W)).setCell ⟨x7, 1, none⟩ (.int .i64 f.H)).setCell ⟨x7, 2, none⟩ (.slice q7.ac f.nc q7.kc)).setCell ⟨x7, 3, none⟩ (.slice q7.ad f.nd q7.kd)).setCell ⟨x7, 4, none⟩ (.slice q7.ai f.ni q7.ki)).setCell ⟨x7, 5, none⟩ (.slice q7.a4 f.nt q7.kt)) q7 f from ((((((O7.out.pset (j := 0) Zx7.out (by decide) (by decide) (.int .i64 f.W)).pset (j := 1) (Zx7.out.set 0 (.int .i64 f.W)) (by decide) (by decide) (.int .i64 f.H)).pset (j := 2) ((Zx7.out.set 0 (.int .i64 f.W)).set 1 (.int .i64 f.H)) (by decide) (by decide) (.slice q7.ac f.nc q7.kc)).pset (j := 3) (((Zx7.out.set 0 (.int .i64 f.W)).set 1 (.int .i64 f.H)).set 2 (.slice q7.ac f.nc q7.kc)) (by decide) (by decide) (.slice q7.ad f.nd q7.kd)).pset (j := 4) ((((Zx7.out.set 0 (.int .i64 f.W)).set 1 (.int .i64 f.H)).set 2 (.slice q7.ac f.nc q7.kc)).set 3 (.slice q7.ad f.nd q7.kd)) (by decide) (by decide) (.slice q7.ai f.ni q7.ki)).pset (j := 5) (((((Zx7.out.set 0 (.int .i64 f.W)).set 1 (.int .i64 f.H)).set 2 (.slice q7.ac f.nc q7.kc)).set 3 (.slice q7.ad f.nd q7.kd)).set 4 (.slice q7.ai f.ni q7.ki)) (by decide) (by decide) (.slice q7.a4 f.nt q7.kt)))
          have O8n := Lib.hid (show POwn w.heap.size ((((((v7.setCell ⟨x7, 0, none⟩ (.int .i64 f.W)).setCell ⟨x7, 1, none⟩ (.int .i64 f.H)).setCell ⟨x7, 2, none⟩ (.slice q7.ac f.nc q7.kc)).setCell ⟨x7, 3, none⟩ (.slice q7.ad f.nd q7.kd)).setCell ⟨x7, 4, none⟩ (.slice q7.ai f.ni q7.ki)).setCell ⟨x7, 5, none⟩ (.slice q7.a4 f.nt q7.kt)) q8 d from ((((((O8.out.pset (j := 0) Zx7.out (by decide) (by decide) (.int .i64 f.W)).pset (j := 1) (Zx7.out.set 0 (.int .i64 f.W)) (by decide) (by decide) (.int .i64 f.H)).pset (j := 2) ((Zx7.out.set 0 (.int .i64 f.W)).set 1 (.int .i64 f.H)) (by decide) (by decide) (.slice q7.ac f.nc q7.kc)).pset (j := 3) (((Zx7.out.set 0 (.int .i64 f.W)).set 1 (.int .i64 f.H)).set 2 (.slice q7.ac f.nc q7.kc)) (by decide) (by decide) (.slice q7.ad f.nd q7.kd)).pset (j := 4) ((((Zx7.out.set 0 (.int .i64 f.W)).set 1 (.int .i64 f.H)).set 2 (.slice q7.ac f.nc q7.kc)).set 3 (.slice q7.ad f.nd q7.kd)) (by decide) (by decide) (.slice q7.ai f.ni q7.ki)).pset (j := 5) (((((Zx7.out.set 0 (.int .i64 f.W)).set 1 (.int .i64 f.H)).set 2 (.slice q7.ac f.nc q7.kc)).set 3 (.slice q7.ad f.nd q7.kd)).set 4 (.slice q7.ai f.ni q7.ki)) (by decide) (by decide) (.slice q7.a4 f.nt q7.kt)))
          clear Zx7 Zx8 B3 B4 B5 HB O7 O8 HS z0 zf0 z1 zf1 z2 zf2 z3 zf3 z4 zf4 z5 zf5 zz hl1 hl2
          have Zx7 := Lib.hid Zx7n.out
          have Zx8 := Lib.hid Zx8n.out
          have B3 := Lib.hid B3n.out
          have B4 := Lib.hid B4n.out
          have B5 := Lib.hid B5n.out
          have HB := Lib.hid HBn.out
          have O7 := Lib.hid O7n.out
          have O8 := Lib.hid O8n.out
          clear Zx7n Zx8n B3n B4n B5n HBn O7n O8n
          have HS := Lib.hid (show (fun Wo => HasBlk Wo w.heap.size 29 #[.int .i64 f.W, .int .i64 f.H, .slice p.ac f.nc p.kc, .slice p.ad f.nd p.kd, .slice p.ai f.ni p.ki, .slice p.a4 f.nt p.kt] ∧ HasBlk Wo (w.heap.size + 1) 51 #[.slice q.A d.n q.c]) ((((((v7.setCell ⟨x7, 0, none⟩ (.int .i64 f.W)).setCell ⟨x7, 1, none⟩ (.int .i64 f.H)).setCell ⟨x7, 2, none⟩ (.slice q7.ac f.nc q7.kc)).setCell ⟨x7, 3, none⟩ (.slice q7.ad f.nd q7.kd)).setCell ⟨x7, 4, none⟩ (.slice q7.ai f.ni q7.ki)).setCell ⟨x7, 5, none⟩ (.slice q7.a4 f.nt q7.kt)) from ⟨B3.out, B4.out⟩)
          refine HK _ _ (fun _ => HS.out) ?_
          clear HK
          generalize ((((((v7.setCell ⟨x7, 0, none⟩ (.int .i64 f.W)).setCell ⟨x7, 1, none⟩ (.int .i64 f.H)).setCell ⟨x7, 2, none⟩ (.slice q7.ac f.nc q7.kc)).setCell ⟨x7, 3, none⟩ (.slice q7.ad f.nd q7.kd)).setCell ⟨x7, 4, none⟩ (.slice q7.ai f.ni q7.ki)).setCell ⟨x7, 5, none⟩ (.slice q7.a4 f.nt q7.kt)) = va at *
          refine wpAnyE_step (i := 7) rfl (by kernel_rfl) (fun KQ HK => ?_)
          have z0 := Zx8.out.cell 0
          have zf0 := Zx8.out.frozen 0
          have zz := Zx8.out.lt
          simp at z0
          go_wp2
          have hl1 := Lx8.out.1
          have hl2 := Lx8.out.2
          have Zx8n := Lib.hid (show HasBlk (va.setCell ⟨x8, 0, none⟩ (.slice q8.A d.n q8.c)) x8 51 #[.slice q8.A d.n q8.c] by simpa using ((Zx8.out).set 0 (.slice q8.A d.n q8.c)))
          have Zx7n := Lib.hid (show HasBlk (va.setCell ⟨x8, 0, none⟩ (.slice q8.A d.n q8.c)) x7 29 _ from (Zx7.out.far (p := ⟨x8, 0, none⟩) (by simp; omega) (.slice q8.A d.n q8.c)))
          have B3n := Lib.hid (show HasBlk (va.setCell ⟨x8, 0, none⟩ (.slice q8.A d.n q8.c)) w.heap.size 29 _ from (B3.out.far (p := ⟨x8, 0, none⟩) (by simp; omega) (.slice q8.A d.n q8.c)))
          have B4n := Lib.hid (show HasBlk (va.setCell ⟨x8, 0, none⟩ (.slice q8.A d.n q8.c)) (w.heap.size + 1) 51 _ from (B4.out.far (p := ⟨x8, 0, none⟩) (by simp; omega) (.slice q8.A d.n q8.c)))
          have B5n := Lib.hid (show HasBlk (va.setCell ⟨x8, 0, none⟩ (.slice q8.A d.n q8.c)) (w.heap.size + 1 + 1) 55 _ from (B5.out.far (p := ⟨x8, 0, none⟩) (by simp; omega) (.slice q8.A d.n q8.c)))
          have HBn := Lib.hid (show Below w.heap.size w (va.setCell ⟨x8, 0, none⟩ (.slice q8.A d.n q8.c)) from (Below.setCell (p := ⟨x8, 0, none⟩) HB.out (hl1) (.slice q8.A d.n q8.c)))
          have O7n := Lib.hid (show FOwn w.heap.size (va.setCell ⟨x8, 0, none⟩ (.slice q8.A d.n q8.c)) q7 f from (O7.out.pset (j := 0) Zx8.out (by decide) (by decide) (.slice q8.A d.n q8.c)))
          have O8n := Lib.hid (show POwn w.heap.size (va.setCell ⟨x8, 0, none⟩ (.slice q8.A d.n q8.c)) q8 d from (O8.out.pset (j := 0) Zx8.out (by decide) (by decide) (.slice q8.A d.n q8.c)))
          clear Zx8 Zx7 B3 B4 B5 HB O7 O8 HS z0 zf0 zz hl1 hl2
          have Zx8 := Lib.hid Zx8n.out
          have Zx7 := Lib.hid Zx7n.out
          have B3 := Lib.hid B3n.out
          have B4 := Lib.hid B4n.out
          have B5 := Lib.hid B5n.out
          have HB := Lib.hid HBn.out
          have O7 := Lib.hid O7n.out
          have O8 := Lib.hid O8n.out
          clear Zx8n Zx7n B3n B4n B5n HBn O7n O8n
          have HS := Lib.hid (show (fun Wo => HasBlk Wo w.heap.size 29 #[.int .i64 f.W, .int .i64 f.H, .slice p.ac f.nc p.kc, .slice p.ad f.nd p.kd, .slice p.ai f.ni p.ki, .slice p.a4 f.nt p.kt] ∧ HasBlk Wo (w.heap.size + 1) 51 #[.slice q.A d.n q.c]) (va.setCell ⟨x8, 0, none⟩ (.slice q8.A d.n q8.c)) from ⟨B3.out, B4.out⟩)
          refine HK _ _ (fun _ => HS.out) ?_
          clear HK
          generalize (va.setCell ⟨x8, 0, none⟩ (.slice q8.A d.n q8.c)) = vb at *
          refine wpAnyE_done (by kernel_rfl) ?_
          go_wp2_with fail
          go_meet
          exact ⟨x7, x8, q7, q8, rfl, rfl, Zx7.out, Zx8.out, O7.out.ok, O8.out.ok, B3.out, B4.out, B5.out, HB.out⟩
    · go_wp2
      have hbel := (Below.refl v3.heap.size v3).alloc (Nat.le_refl _) (.cells #[.int .i64 0, .int .i64 0, .slice none 0 0, .slice none 0 0, .slice none 0 0, .slice none 0 0] 29)
      have Zx7 := Lib.hid (hasBlk_new v3 29 #[.int .i64 0, .int .i64 0, .slice none 0 0, .slice none 0 0, .slice none 0 0, .slice none 0 0])
      clear HS
      have Lx7 := Lib.hid (show w.heap.size ≤ v3.heap.size ∧ (w.heap.size + 1 + 1) < v3.heap.size from ⟨HB.out.size, B5.out.lt⟩)
      have B3' := Lib.hid (B3.out.below (hbel))
      have B4' := Lib.hid (B4.out.below (hbel))
      have B5' := Lib.hid (B5.out.below (hbel))
      have OF' := Lib.hid (OF.out.below (hbel))
      have OP' := Lib.hid (OP.out.below (hbel))
      have HB' := Lib.hid (HB.out.trans ((hbel).mono HB.out.size))
      clear B3 B4 B5 OF OP HB
      have B3 := Lib.hid B3'.out
      have B4 := Lib.hid B4'.out
      have B5 := Lib.hid B5'.out
      have OF := Lib.hid OF'.out
      have OP := Lib.hid OP'.out
      have HB := Lib.hid HB'.out
      clear B3' B4' B5' OF' OP' HB'
      have HS := Lib.hid (show (fun Wo => HasBlk Wo w.heap.size 29 #[.int .i64 f.W, .int .i64 f.H, .slice p.ac f.nc p.kc, .slice p.ad f.nd p.kd, .slice p.ai f.ni p.ki, .slice p.a4 f.nt p.kt] ∧ HasBlk Wo (w.heap.size + 1) 51 #[.slice q.A d.n q.c]) (v3.alloc (.cells #[.int .i64 0, .int .i64 0, .slice none 0 0, .slice none 0 0, .slice none 0 0, .slice none 0 0] 29)) from ⟨B3.out, B4.out⟩)
      clear hbel
      refine HK _ _ (fun _ => HS.out) ?_
      clear HK
      obtain ⟨x7, hx7⟩ : ∃ x7, x7 = v3.heap.size := ⟨_, rfl⟩
      rw [← hx7] at Zx7 Lx7 ⊢
      clear hx7
      generalize v3.alloc (.cells #[.int .i64 0, .int .i64 0, .slice none 0 0, .slice none 0 0, .slice none 0 0, .slice none 0 0] 29) = v4 at *
      refine wpAnyE_two (i := 1) (j := 5) rfl rfl (by kernel_rfl) (fun KQ HK => ?_) (fun KQ HK => ?_)
      · have KX := Lib.hid (reftwin_any p f v4 OF.out FT.out)
        go_wp2_with fail
        refine KX.out.mono ?_
        rintro e v5 ⟨⟨q7, rfl, hown⟩, bel⟩
        have O7 := Lib.hid (hown.base HB.out.size)
        clear KX hown HS
        have B3' := Lib.hid (B3.out.below (bel))
        have B4' := Lib.hid (B4.out.below (bel))
        have B5' := Lib.hid (B5.out.below (bel))
        have OF' := Lib.hid (OF.out.below (bel))
        have OP' := Lib.hid (OP.out.below (bel))
        have Zx7' := Lib.hid (Zx7.out.below (bel))
        have HB' := Lib.hid (HB.out.trans ((bel).mono HB.out.size))
        clear B3 B4 B5 OF OP Zx7 HB
        have B3 := Lib.hid B3'.out
        have B4 := Lib.hid B4'.out
        have B5 := Lib.hid B5'.out
        have OF := Lib.hid OF'.out
        have OP := Lib.hid OP'.out
        have Zx7 := Lib.hid Zx7'.out
        have HB := Lib.hid HB'.out
        clear B3' B4' B5' OF' OP' Zx7' HB'
        clear bel
        have HS := Lib.hid (show (fun Wo => HasBlk Wo w.heap.size 29 #[.int .i64 f.W, .int .i64 f.H, .slice p.ac f.nc p.kc, .slice p.ad f.nd p.kd, .slice p.ai f.ni p.ki, .slice p.a4 f.nt p.kt] ∧ HasBlk Wo (w.heap.size + 1) 51 #[.slice q.A d.n q.c]) v5 from ⟨B3.out, B4.out⟩)
        go_wp2
        refine HK _ _ (fun _ => HS.out) ?_
        clear HK
        refine wpAnyE_two (i := 3) (j := 5) rfl rfl (by kernel_rfl) (fun KQ HK => ?_) (fun KQ HK => ?_)
        · have KX := Lib.hid (ptwin_any d q NP.out v5 OP.out)
          go_wp2_with fail
          refine KX.out.mono ?_
          rintro e v6 ⟨⟨q8, rfl, hown⟩, bel⟩
          have O8 := Lib.hid (hown.base HB.out.size)
          clear KX hown HS
          have B3' := Lib.hid (B3.out.below (bel))
          have B4' := Lib.hid (B4.out.below (bel))
          have B5' := Lib.hid (B5.out.below (bel))
          have OF' := Lib.hid (OF.out.below (bel))
          have OP' := Lib.hid (OP.out.below (bel))
          have Zx7' := Lib.hid (Zx7.out.below (bel))
          have O7' := Lib.hid (O7.out.below (bel))
          have HB' := Lib.hid (HB.out.trans ((bel).mono HB.out.size))
          clear B3 B4 B5 OF OP Zx7 O7 HB
          have B3 := Lib.hid B3'.out
          have B4 := Lib.hid B4'.out
          have B5 := Lib.hid B5'.out
          have OF := Lib.hid OF'.out
          have OP := Lib.hid OP'.out
          have Zx7 := Lib.hid Zx7'.out
          have O7 := Lib.hid O7'.out
          have HB := Lib.hid HB'.out
          clear B3' B4' B5' OF' OP' Zx7' O7' HB'
          clear bel
          have HS := Lib.hid (show (fun Wo => HasBlk Wo w.heap.size 29 #[.int .i64 f.W, .int .i64 f.H, .slice p.ac f.nc p.kc, .slice p.ad f.nd p.kd, .slice p.ai f.ni p.ki, .slice p.a4 f.nt p.kt] ∧ HasBlk Wo (w.heap.size + 1) 51 #[.slice q.A d.n q.c]) v6 from ⟨B3.out, B4.out⟩)
          go_wp2
          refine HK _ _ (fun _ => HS.out) ?_
          clear HK
          refine wpAnyE_step (i := 5) rfl (by kernel_rfl) (fun KQ HK => ?_)
          go_wp2
          have hbel := (Below.refl v6.heap.size v6).alloc (Nat.le_refl _) (.cells #[.slice none 0 0] 51)
          have Zx8 := Lib.hid (hasBlk_new v6 51 #[.slice none 0 0])
          clear HS
          have Lx8 := Lib.hid (show w.heap.size ≤ v6.heap.size ∧ (w.heap.size + 1 + 1) < v6.heap.size from ⟨HB.out.size, B5.out.lt⟩)
          have hne := Zx7.out.lt
          have B3' := Lib.hid (B3.out.below (hbel))
          have B4' := Lib.hid (B4.out.below (hbel))
          have B5' := Lib.hid (B5.out.below (hbel))
          have OF' := Lib.hid (OF.out.below (hbel))
          have OP' := Lib.hid (OP.out.below (hbel))
          have Zx7' := Lib.hid (Zx7.out.below (hbel))
          have O7' := Lib.hid (O7.out.below (hbel))
          have O8' := Lib.hid (O8.out.below (hbel))
          have HB' := Lib.hid (HB.out.trans ((hbel).mono HB.out.size))
          clear B3 B4 B5 OF OP Zx7 O7 O8 HB
          have B3 := Lib.hid B3'.out
          have B4 := Lib.hid B4'.out
          have B5 := Lib.hid B5'.out
          have OF := Lib.hid OF'.out
          have OP := Lib.hid OP'.out
          have Zx7 := Lib.hid Zx7'.out
          have O7 := Lib.hid O7'.out
          have O8 := Lib.hid O8'.out
          have HB := Lib.hid HB'.out
          clear B3' B4' B5' OF' OP' Zx7' O7' O8' HB'
          have HS := Lib.hid (show (fun Wo => HasBlk Wo w.heap.size 29 #[.int .i64 f.W, .int .i64 f.H, .slice p.ac f.nc p.kc, .slice p.ad f.nd p.kd, .slice p.ai f.ni p.ki, .slice p.a4 f.nt p.kt] ∧ HasBlk Wo (w.heap.size + 1) 51 #[.slice q.A d.n q.c]) (v6.alloc (.cells #[.slice none 0 0] 51)) from ⟨B3.out, B4.out⟩)
          clear hbel
          refine HK _ _ (fun _ => HS.out) ?_
          clear HK
          obtain ⟨x8, hx8⟩ : ∃ x8, x8 = v6.heap.size := ⟨_, rfl⟩
          rw [← hx8] at Zx8 Lx8 ⊢
          rw [← hx8] at hne
          clear hx8
          generalize v6.alloc (.cells #[.slice none 0 0] 51) = v7 at *
          refine wpAnyE_step (i := 6) rfl (by kernel_rfl) (fun KQ HK => ?_)
          have z0 := Zx7.out.cell 0
          have zf0 := Zx7.out.frozen 0
          have z1 := Zx7.out.cell 1
          have zf1 := Zx7.out.frozen 1
          have z2 := Zx7.out.cell 2
          have zf2 := Zx7.out.frozen 2
          have z3 := Zx7.out.cell 3
          have zf3 := Zx7.out.frozen 3
          have z4 := Zx7.out.cell 4
          have zf4 := Zx7.out.frozen 4
          have z5 := Zx7.out.cell 5
          have zf5 := Zx7.out.frozen 5
          have zz := Zx7.out.lt
          simp at z0 z1 z2 z3 z4 z5
          go_wp2
          have hl1 := Lx7.out.1
          have hl2 := Lx7.out.2
          have Zx7n := Lib.hid (show HasBlk ((((((v7.setCell ⟨x7, 0, none⟩ (.int .i64 f.W)).setCell ⟨x7, 1, none⟩ (.int .i64 f.H)).setCell ⟨x7, 2, none⟩ (.slice q7.ac f.nc q7.kc)).setCell ⟨x7, 3, none⟩ (.slice q7.ad f.nd q7.kd)).setCell ⟨x7, 4, none⟩ (.slice q7.ai f.ni q7.ki)).setCell ⟨x7, 5, none⟩ (.slice q7.a4 f.nt q7.kt)) x7 29 #[.int .i64 f.W, .int .i64 f.H, .slice q7.ac f.nc q7.kc, .slice q7.ad f.nd q7.kd, .slice q7.ai f.ni q7.ki, .slice q7.a4 f.nt q7.kt] by simpa using ((((((((((((Zx7.out).set 0 (.int .i64 f.W))).set 1 (.int .i64 f.H))).set 2 (.slice q7.ac f.nc q7.kc))).set 3 (.slice q7.ad f.nd q7.kd))).set 4 (.slice q7.ai f.ni q7.ki))).set 5 (.slice q7.a4 f.nt q7.kt)))
          have Zx8n := Lib.hid (show HasBlk ((((((v7.setCell ⟨x7, 0, none⟩ (.int .i64 f.W)).setCell ⟨x7, 1, none⟩ (.int .i64 f.H)).setCell ⟨x7, 2, none⟩ (.slice q7.ac f.nc q7.kc)).setCell ⟨x7, 3, none⟩ (.slice q7.ad f.nd q7.kd)).setCell ⟨x7, 4, none⟩ (.slice q7.ai f.ni q7.ki)).setCell ⟨x7, 5, none⟩ (.slice q7.a4 f.nt q7.kt)) x8 51 _ from ((((((Zx8.out.far (p := ⟨x7, 0, none⟩) (by simp; omega) (.int .i64 f.W)).far (p := ⟨x7, 1, none⟩) (by simp; omega) (.int .i64 f.H)).far (p := ⟨x7, 2, none⟩) (by simp; omega) (.slice q7.ac f.nc q7.kc)).far (p := ⟨x7, 3, none⟩) (by simp; omega) (.slice q7.ad f.nd q7.kd)).far (p := ⟨x7, 4, none⟩) (by simp; omega) (.slice q7.ai f.ni q7.ki)).far (p := ⟨x7, 5, none⟩) (by simp; omega) (.slice q7.a4 f.nt q7.kt)))
          have B3n := Lib.hid (show HasBlk ((((((v7.setCell ⟨x7, 0, none⟩ (.int .i64 f.W)).setCell ⟨x7, 1, none⟩ (.int .i64 f.H)).setCell ⟨x7, 2, none⟩ (.slice q7.ac f.nc q7.kc)).setCell ⟨x7, 3, none⟩ (.slice q7.ad f.nd q7.kd)).setCell ⟨x7, 4, none⟩ (.slice q7.ai f.ni q7.ki)).setCell ⟨x7, 5, none⟩ (.slice q7.a4 f.nt q7.kt)) w.heap.size 29 _ from ((((((B3.out.far (p := ⟨x7, 0, none⟩) (by simp; omega) (.int .i64 f.W)).far (p := ⟨x7, 1, none⟩) (by simp; omega) (.int .i64 f.H)).far (p := ⟨x7, 2, none⟩) (by simp; omega) (.slice q7.ac f.nc q7.kc)).far (p := ⟨x7, 3, none⟩) (by simp; omega) (.slice q7.ad f.nd q7.kd)).far (p := ⟨x7, 4, none⟩) (by simp; omega) (.slice q7.ai f.ni q7.ki)).far (p := ⟨x7, 5, none⟩) (by simp; omega) (.slice q7.a4 f.nt q7.kt)))
          have B4n := Lib.hid (show HasBlk ((((((v7.setCell ⟨x7, 0, none⟩ (.int .i64 f.W)).setCell ⟨x7, 1, none⟩ (.int .i64 f.H)).setCell ⟨x7, 2, none⟩ (.slice q7.ac f.nc q7.kc)).setCell ⟨x7, 3, none⟩ (.slice q7.ad f.nd q7.kd)).setCell ⟨x7, 4, none⟩ (.slice q7.ai f.ni q7.ki)).setCell ⟨x7, 5, none⟩ (.slice q7.a4 f.nt q7.kt)) (w.heap.size + 1) 51 _ from ((((((B4.out.far (p := ⟨x7, 0, none⟩) (by simp; omega) (.int .i64 f.W)).far (p := ⟨x7, 1, none⟩) (by simp; omega) (.int .i64 f.H)).far (p := ⟨x7, 2, none⟩) (by simp; omega) (.slice q7.ac f.nc q7.kc)).far (p := ⟨x7, 3, none⟩) (by simp; omega) (.slice q7.ad f.nd q7.kd)).far (p := ⟨x7, 4, none⟩) (by simp; omega) (.slice q7.ai f.ni q7.ki)).far (p := ⟨x7, 5, none⟩) (by simp; omega) (.slice q7.a4 f.nt q7.kt)))
          have B5n := Lib.hid (show HasBlk ((((((v7.setCell ⟨x7, 0, none⟩ (.int .i64 f.W)).setCell ⟨x7, 1, none⟩ (.int .i64 f.H)).setCell ⟨x7, 2, none⟩ (.slice q7.ac f.nc q7.kc)).setCell ⟨x7, 3, none⟩ (.slice q7.ad f.nd q7.kd)).setCell ⟨x7, 4, none⟩ (.slice q7.ai f.ni q7.ki)).setCell ⟨x7, 5, none⟩ (.slice q7.a4 f.nt q7.kt)) (w.heap.size + 1 + 1) 55 _ from ((((((B5.out.far (p := ⟨x7, 0, none⟩) (by simp; omega) (.int .i64 f.W)).far (p := ⟨x7, 1, none⟩) (by simp; omega) (.int .i64 f.H)).far (p := ⟨x7, 2, none⟩) (by simp; omega) (.slice q7.ac f.nc q7.kc)).far (p := ⟨x7, 3, none⟩) (by simp; omega) (.slice q7.ad f.nd q7.kd)).far (p := ⟨x7, 4, none⟩) (by simp; omega) (.slice q7.ai f.ni q7.ki)).far (p := ⟨x7, 5, none⟩) (by simp; omega) (.slice q7.a4 f.nt q7.kt)))
          have HBn := Lib.hid (show Below w.heap.size w ((((((v7.setCell ⟨x7, 0, none⟩ (.int .i64 f.W)).setCell ⟨x7, 1, none⟩ (.int .i64 f.H)).setCell ⟨x7, 2, none⟩ (.slice q7.ac f.nc q7.kc)).setCell ⟨x7, 3, none⟩ (.slice q7.ad f.nd q7.kd)).setCell ⟨x7, 4, none⟩ (.slice q7.ai f.ni q7.ki)).setCell ⟨x7, 5, none⟩ (.slice q7.a4 f.nt q7.kt)) from (Below.setCell (p := ⟨x7, 5, none⟩) (Below.setCell (p := ⟨x7, 4, none⟩) (Below.setCell (p := ⟨x7, 3, none⟩) (Below.setCell (p := ⟨x7, 2, none⟩) (Below.setCell (p := ⟨x7, 1, none⟩) (Below.setCell (p := ⟨x7, 0, none⟩) HB.out (hl1) (.int .i64 f.W)) (hl1) (.int .i64 f.H)) (hl1) (.slice q7.ac f.nc q7.kc)) (hl1) (.slice q7.ad f.nd q7.kd)) (hl1) (.slice q7.ai f.ni q7.ki)) (hl1) (.slice q7.a4 f.nt q7.kt)))
          have O7n := Lib.hid (show FOwn w.heap.size ((((((v7.setCell ⟨x7, 0, none⟩ (.int .i64 f.W)).setCell ⟨x7, 1, none⟩ (.int .i64 f.H)).setCell ⟨x7, 2, none⟩ (.slice q7.ac f.nc q7.kc)).setCell ⟨x7, 3, none⟩ (.slice q7.ad f.nd q7.kd)).setCell ⟨x7, 4, none⟩ (.slice q7.ai f.ni q7.ki)).setCell ⟨x7, 5, none⟩ (.slice q7.a4 f.nt q7.kt)) q7 f from ((((((O7.out.pset (j := 0) Zx7.out (by decide) (by decide) (.int .i64 f.W)).pset (j := 1) (Zx7.out.set 0 (.int .i64 f.W)) (by decide) (by decide) (.int .i64 f.H)).pset (j := 2) ((Zx7.out.set 0 (.int .i64 f.W)).set 1 (.int .i64 f.H)) (by decide) (by decide) (.slice q7.ac f.nc q7.kc)).pset (j := 3) (((Zx7.out.set 0 (.int .i64 f.W)).set 1 (.int .i64 f.H)).set 2 (.slice q7.ac f.nc q7.kc)) (by decide) (by decide) (.slice q7.ad f.nd q7.kd)).pset (j := 4) ((((Zx7.out.set 0 (.int .i64 f.W)).set 1 (.int .i64 f.H)).set 2 (.slice q7.ac f.nc q7.kc)).set 3 (.slice q7.ad f.nd q7.kd)) (by decide) (by decide) (.slice q7.ai f.ni q7.ki)).pset (j := 5) (((((Zx7.out.set 0 (.int .i64 f.W)).set 1 (.int .i64 f.H)).set 2 (.slice q7.ac f.nc q7.kc)).set 3 (.slice q7.ad f.nd q7.kd)).set 4 (.slice q7.ai f.ni q7.ki)) (by decide) (by decide) (.slice q7.a4 f.nt q7.kt)))
          have O8n := Lib.hid (show POwn w.heap.size ((((((v7.setCell ⟨x7, 0, none⟩ (.int .i64 f.W)).setCell ⟨x7, 1, none⟩ (.int .i64 f.H)).setCell ⟨x7, 2, none⟩ (.slice q7.ac f.nc q7.kc)).setCell ⟨x7, 3, none⟩ (.slice q7.ad f.nd q7.kd)).setCell ⟨x7, 4, none⟩ (.slice q7.ai f.ni q7.ki)).setCell ⟨x7, 5, none⟩ (.slice q7.a4 f.nt q7.kt)) q8 d from ((((((O8.out.pset (j := 0) Zx7.out (by decide) (by decide) (.int .i64 f.W)).pset (j := 1) (Zx7.out.set 0 (.int .i64 f.W)) (by decide) (by decide) (.int .i64 f.H)).pset (j := 2) ((Zx7.out.set 0 (.int .i64 f.W)).set 1 (.int .i64 f.H)) (by decide) (by decide) (.slice q7.ac f.nc q7.kc)).pset (j := 3) (((Zx7.out.set 0 (.int .i64 f.W)).set 1 (.int .i64 f.H)).set 2 (.slice q7.ac f.nc q7.kc)) (by decide) (by decide) (.slice q7.ad f.nd q7.kd)).pset (j := 4) ((((Zx7.out.set 0 (.int .i64 f.W)).set 1 (.int .i64 f.H)).set 2 (.slice q7.ac f.nc q7.kc)).set 3 (.slice q7.ad f.nd q7.kd)) (by decide) (by decide) (.slice q7.ai f.ni q7.ki)).pset (j := 5) (((((Zx7.out.set 0 (.int .i64 f.W)).set 1 (.int .i64 f.H)).set 2 (.slice q7.ac f.nc q7.kc)).set 3 (.slice q7.ad f.nd q7.kd)).set 4 (.slice q7.ai f.ni q7.ki)) (by decide) (by decide) (.slice q7.a4 f.nt q7.kt)))
          clear Zx7 Zx8 B3 B4 B5 HB O7 O8 HS z0 zf0 z1 zf1 z2 zf2 z3 zf3 z4 zf4 z5 zf5 zz hl1 hl2
          have Zx7 := Lib.hid Zx7n.out
          have Zx8 := Lib.hid Zx8n.out
          have B3 := Lib.hid B3n.out
          have B4 := Lib.hid B4n.out
          have B5 := Lib.hid B5n.out
          have HB := Lib.hid HBn.out
          have O7 := Lib.hid O7n.out
          have O8 := Lib.hid O8n.out
          clear Zx7n Zx8n B3n B4n B5n HBn O7n O8n
          have HS := Lib.hid (show (fun Wo => HasBlk Wo w.heap.size 29 #[.int .i64 f.W, .int .i64 f.H, .slice p.ac f.nc p.kc, .slice p.ad f.nd p.kd, .slice p.ai f.ni p.ki, .slice p.a4 f.nt p.kt] ∧ HasBlk Wo (w.heap.size + 1) 51 #[.slice q.A d.n q.c]) ((((((v7.setCell ⟨x7, 0, none⟩ (.int .i64 f.W)).setCell ⟨x7, 1, none⟩ (.int .i64 f.H)).setCell ⟨x7, 2, none⟩ (.slice q7.ac f.nc q7.kc)).setCell ⟨x7, 3, none⟩ (.slice q7.ad f.nd q7.kd)).setCell ⟨x7, 4, none⟩ (.slice q7.ai f.ni q7.ki)).setCell ⟨x7, 5, none⟩ (.slice q7.a4 f.nt q7.kt)) from ⟨B3.out, B4.out⟩)
          refine HK _ _ (fun _ => HS.out) ?_
          clear HK
          generalize ((((((v7.setCell ⟨x7, 0, none⟩ (.int .i64 f.W)).setCell ⟨x7, 1, none⟩ (.int .i64 f.H)).setCell ⟨x7, 2, none⟩ (.slice q7.ac f.nc q7.kc)).setCell ⟨x7, 3, none⟩ (.slice q7.ad f.nd q7.kd)).setCell ⟨x7, 4, none⟩ (.slice q7.ai f.ni q7.ki)).setCell ⟨x7, 5, none⟩ (.slice q7.a4 f.nt q7.kt)) = va at *
          refine wpAnyE_step (i := 7) rfl (by kernel_rfl) (fun KQ HK => ?_)
          have z0 := Zx8.out.cell 0
          have zf0 := Zx8.out.frozen 0
          have zz := Zx8.out.lt
          simp at z0
          go_wp2
          have hl1 := Lx8.out.1
          have hl2 := Lx8.out.2
          have Zx8n := Lib.hid (show HasBlk (va.setCell ⟨x8, 0, none⟩ (.slice q8.A d.n q8.c)) x8 51 #[.slice q8.A d.n q8.c] by simpa using ((Zx8.out).set 0 (.slice q8.A d.n q8.c)))
          have Zx7n := Lib.hid (show HasBlk (va.setCell ⟨x8, 0, none⟩ (.slice q8.A d.n q8.c)) x7 29 _ from (Zx7.out.far (p := ⟨x8, 0, none⟩) (by simp; omega) (.slice q8.A d.n q8.c)))
          have B3n := Lib.hid (show HasBlk (va.setCell ⟨x8, 0, none⟩ (.slice q8.A d.n q8.c)) w.heap.size 29 _ from (B3.out.far (p := ⟨x8, 0, none⟩) (by simp; omega) (.slice q8.A d.n q8.c)))
          have B4n := Lib.hid (show HasBlk (va.setCell ⟨x8, 0, none⟩ (.slice q8.A d.n q8.c)) (w.heap.size + 1) 51 _ from (B4.out.far (p := ⟨x8, 0, none⟩) (by simp; omega) (.slice q8.A d.n q8.c)))
          have B5n := Lib.hid (show HasBlk (va.setCell ⟨x8, 0, none⟩ (.slice q8.A d.n q8.c)) (w.heap.size + 1 + 1) 55 _ from (B5.out.far (p := ⟨x8, 0, none⟩) (by simp; omega) (.slice q8.A d.n q8.c)))
          have HBn := Lib.hid (show Below w.heap.size w (va.setCell ⟨x8, 0, none⟩ (.slice q8.A d.n q8.c)) from (Below.setCell (p := ⟨x8, 0, none⟩) HB.out (hl1) (.slice q8.A d.n q8.c)))
          have O7n := Lib.hid (show FOwn w.heap.size (va.setCell ⟨x8, 0, none⟩ (.slice q8.A d.n q8.c)) q7 f from (O7.out.pset (j := 0) Zx8.out (by decide) (by decide) (.slice q8.A d.n q8.c)))
          have O8n := Lib.hid (show POwn w.heap.size (va.setCell ⟨x8, 0, none⟩ (.slice q8.A d.n q8.c)) q8 d from (O8.out.pset (j := 0) Zx8.out (by decide) (by decide) (.slice q8.A d.n q8.c)))
          clear Zx8 Zx7 B3 B4 B5 HB O7 O8 HS z0 zf0 zz hl1 hl2
          have Zx8 := Lib.hid Zx8n.out
          have Zx7 := Lib.hid Zx7n.out
          have B3 := Lib.hid B3n.out
          have B4 := Lib.hid B4n.out
          have B5 := Lib.hid B5n.out
          have HB := Lib.hid HBn.out
          have O7 := Lib.hid O7n.out
          have O8 := Lib.hid O8n.out
          clear Zx8n Zx7n B3n B4n B5n HBn O7n O8n
          have HS := Lib.hid (show (fun Wo => HasBlk Wo w.heap.size 29 #[.int .i64 f.W, .int .i64 f.H, .slice p.ac f.nc p.kc, .slice p.ad f.nd p.kd, .slice p.ai f.ni p.ki, .slice p.a4 f.nt p.kt] ∧ HasBlk Wo (w.heap.size + 1) 51 #[.slice q.A d.n q.c]) (va.setCell ⟨x8, 0, none⟩ (.slice q8.A d.n q8.c)) from ⟨B3.out, B4.out⟩)
          refine HK _ _ (fun _ => HS.out) ?_
          clear HK
          generalize (va.setCell ⟨x8, 0, none⟩ (.slice q8.A d.n q8.c)) = vb at *
          refine wpAnyE_done (by kernel_rfl) ?_
          go_wp2_with fail
          go_meet
          exact ⟨x7, x8, q7, q8, rfl, rfl, Zx7.out, Zx8.out, O7.out.ok, O8.out.ok, B3.out, B4.out, B5.out, HB.out⟩
        · go_wp2
          have hbel := (Below.refl v5.heap.size v5).alloc (Nat.le_refl _) (.cells #[.slice none 0 0] 51)
          have Zx8 := Lib.hid (hasBlk_new v5 51 #[.slice none 0 0])
          clear HS
          have Lx8 := Lib.hid (show w.heap.size ≤ v5.heap.size ∧ (w.heap.size + 1 + 1) < v5.heap.size from ⟨HB.out.size, B5.out.lt⟩)
          have hne := Zx7.out.lt
          have B3' := Lib.hid (B3.out.below (hbel))
          have B4' := Lib.hid (B4.out.below (hbel))
          have B5' := Lib.hid (B5.out.below (hbel))
          have OF' := Lib.hid (OF.out.below (hbel))
          have OP' := Lib.hid (OP.out.below (hbel))
          have Zx7' := Lib.hid (Zx7.out.below (hbel))
          have O7' := Lib.hid (O7.out.below (hbel))
          have HB' := Lib.hid (HB.out.trans ((hbel).mono HB.out.size))
          clear B3 B4 B5 OF OP Zx7 O7 HB
          have B3 := Lib.hid B3'.out
          have B4 := Lib.hid B4'.out
          have B5 := Lib.hid B5'.out
          have OF := Lib.hid OF'.out
          have OP := Lib.hid OP'.out
          have Zx7 := Lib.hid Zx7'.out
          have O7 := Lib.hid O7'.out
          have HB := Lib.hid HB'.out
          clear B3' B4' B5' OF' OP' Zx7' O7' HB'
          have HS := Lib.hid (show (fun Wo => HasBlk Wo w.heap.size 29 #[.int .i64 f.W, .int .i64 f.H, .slice p.ac f.nc p.kc, .slice p.ad f.nd p.kd, .slice p.ai f.ni p.ki, .slice p.a4 f.nt p.kt] ∧ HasBlk Wo (w.heap.size + 1) 51 #[.slice q.A d.n q.c]) (v5.alloc (.cells #[.slice none 0 0] 51)) from ⟨B3.out, B4.out⟩)
          clear hbel
          refine HK _ _ (fun _ => HS.out) ?_
          clear HK
          obtain ⟨x8, hx8⟩ : ∃ x8, x8 = v5.heap.size := ⟨_, rfl⟩
          rw [← hx8] at Zx8 Lx8 ⊢
          rw [← hx8] at hne
          clear hx8
          generalize v5.alloc (.cells #[.slice none 0 0] 51) = v6 at *
          refine wpAnyE_step (i := 3) rfl (by kernel_rfl) (fun KQ HK => ?_)
          have KX := Lib.hid (ptwin_any d q NP.out v6 OP.out)
          go_wp2_with fail
          refine KX.out.mono ?_
          rintro e v7 ⟨⟨q8, rfl, hown⟩, bel⟩
          have O8 := Lib.hid (hown.base HB.out.size)
          clear KX hown HS
          have B3' := Lib.hid (B3.out.below (bel))
          have B4' := Lib.hid (B4.out.below (bel))
          have B5' := Lib.hid (B5.out.below (bel))
          have OF' := Lib.hid (OF.out.below (bel))
          have OP' := Lib.hid (OP.out.below (bel))
          have Zx7' := Lib.hid (Zx7.out.below (bel))
          have O7' := Lib.hid (O7.out.below (bel))
          have Zx8' := Lib.hid (Zx8.out.below (bel))
          have HB' := Lib.hid (HB.out.trans ((bel).mono HB.out.size))
          clear B3 B4 B5 OF OP Zx7 O7 Zx8 HB
          have B3 := Lib.hid B3'.out
          have B4 := Lib.hid B4'.out
          have B5 := Lib.hid B5'.out
          have OF := Lib.hid OF'.out
          have OP := Lib.hid OP'.out
          have Zx7 := Lib.hid Zx7'.out
          have O7 := Lib.hid O7'.out
          have Zx8 := Lib.hid Zx8'.out
          have HB := Lib.hid HB'.out
          clear B3' B4' B5' OF' OP' Zx7' O7' Zx8' HB'
          clear bel
          have HS := Lib.hid (show (fun Wo => HasBlk Wo w.heap.size 29 #[.int .i64 f.W, .int .i64 f.H, .slice p.ac f.nc p.kc, .slice p.ad f.nd p.kd, .slice p.ai f.ni p.ki, .slice p.a4 f.nt p.kt] ∧ HasBlk Wo (w.heap.size + 1) 51 #[.slice q.A d.n q.c]) v7 from ⟨B3.out, B4.out⟩)
          go_wp2
          refine HK _ _ (fun _ => HS.out) ?_
          clear HK
          refine wpAnyE_step (i := 6) rfl (by kernel_rfl) (fun KQ HK => ?_)
          have z0 := Zx7.out.cell 0
          have zf0 := Zx7.out.frozen 0
          have z1 := Zx7.out.cell 1
          have zf1 := Zx7.out.frozen 1
          have z2 := Zx7.out.cell 2
          have zf2 := Zx7.out.frozen 2
          have z3 := Zx7.out.cell 3
          have zf3 := Zx7.out.frozen 3
          have z4 := Zx7.out.cell 4
          have zf4 := Zx7.out.frozen 4
          have z5 := Zx7.out.cell 5
          have zf5 := Zx7.out.frozen 5
          have zz := Zx7.out.lt
          simp at z0 z1 z2 z3 z4 z5
          go_wp2
          have hl1 := Lx7.out.1
          have hl2 := Lx7.out.2
          have Zx7n := Lib.hid (show HasBlk ((((((v7.setCell ⟨x7, 0, none⟩ (.int .i64 f.W)).setCell ⟨x7, 1, none⟩ (.int .i64 f.H)).setCell ⟨x7, 2, none⟩ (.slice q7.ac f.nc q7.kc)).setCell ⟨x7, 3, none⟩ (.slice q7.ad f.nd q7.kd)).setCell ⟨x7, 4, none⟩ (.slice q7.ai f.ni q7.ki)).setCell ⟨x7, 5, none⟩ (.slice q7.a4 f.nt q7.kt)) x7 29 #[.int .i64 f.W, .int .i64 f.H, .slice q7.ac f.nc q7.kc, .slice q7.ad f.nd q7.kd, .slice q7.ai f.ni q7.ki, .slice q7.a4 f.nt q7.kt] by simpa using ((((((((((((Zx7.out).set 0 (.int .i64 f.W))).set 1 (.int .i64 f.H))).set 2 (.slice q7.ac f.nc q7.kc))).set 3 (.slice q7.ad f.nd q7.kd))).set 4 (.slice q7.ai f.ni q7.ki))).set 5 (.slice q7.a4 f.nt q7.kt)))
          have Zx8n := Lib.hid (show HasBlk ((((((v7.setCell ⟨x7, 0, none⟩ (.int .i64 f.W)).setCell ⟨x7, 1, none⟩ (.int .i64 f.H)).setCell ⟨x7, 2, none⟩ (.slice q7.ac f.nc q7.kc)).setCell ⟨x7, 3, none⟩ (.slice q7.ad f.nd q7.kd)).setCell ⟨x7, 4, none⟩ (.slice q7.ai f.ni q7.ki)).setCell ⟨x7, 5, none⟩ (.slice q7.a4 f.nt q7.kt)) x8 51 _ from ((((((Zx8.out.far (p := ⟨x7, 0, none⟩) (by simp; omega) (.int .i64 f.W)).far (p := ⟨x7, 1, none⟩) (by simp; omega) (.int .i64 f.H)).far (p := ⟨x7, 2, none⟩) (by simp; omega) (.slice q7.ac f.nc q7.kc)).far (p := ⟨x7, 3, none⟩) (by simp; omega) (.slice q7.ad f.nd q7.kd)).far (p := ⟨x7, 4, none⟩) (by simp; omega) (.slice q7.ai f.ni q7.ki)).far (p := ⟨x7, 5, none⟩) (by simp; omega) (.slice q7.a4 f.nt q7.kt)))
          have B3n := Lib.hid (show HasBlk ((((((v7.setCell ⟨x7, 0, none⟩ (.int .i64 f.W)).setCell ⟨x7, 1, none⟩ (.int .i64 f.H)).setCell ⟨x7, 2, none⟩ (.slice q7.ac f.nc q7.kc)).setCell ⟨x7, 3, none⟩ (.slice q7.ad f.nd q7.kd)).setCell ⟨x7, 4, none⟩ (.slice q7.ai f.ni q7.ki)).setCell ⟨x7, 5, none⟩ (.slice q7.a4 f.nt q7.kt)) w.heap.size 29 _ from ((((((B3.out.far (p := ⟨x7, 0, none⟩) (by simp; omega) (.int .i64 f.W)).far (p := ⟨x7, 1, none⟩) (by simp; omega) (.int .i64 f.H)).far (p := ⟨x7, 2, none⟩) (by simp; omega) (.slice q7.ac f.nc q7.kc)).far (p := ⟨x7, 3, none⟩) (by simp; omega) (.slice q7.ad f.nd q7.kd)).far (p := ⟨x7, 4, none⟩) (by simp; omega) (.slice q7.ai f.ni q7.ki)).far (p := ⟨x7, 5, none⟩) (by simp; omega) (.slice q7.a4 f.nt q7.kt)))
          have B4n := Lib.hid (show HasBlk ((((((v7.setCell ⟨x7, 0, none⟩ (.int .i64 f.W)).setCell ⟨x7, 1, none⟩ (.int .i64 f.H)).setCell ⟨x7, 2, none⟩ (.slice q7.ac f.nc q7.kc)).setCell ⟨x7, 3, none⟩ (.slice q7.ad f.nd q7.kd)).setCell ⟨x7, 4, none⟩ (.slice q7.ai f.ni q7.ki)).setCell ⟨x7, 5, none⟩ (.slice q7.a4 f.nt q7.kt)) (w.heap.size + 1) 51 _ from ((((((B4.out.far (p := ⟨x7, 0, none⟩) (by simp; omega) (.int .i64 f.W)).far (p := ⟨x7, 1, none⟩) (by simp; omega) (.int .i64 f.H)).far (p := ⟨x7, 2, none⟩) (by simp; omega) (.slice q7.ac f.nc q7.kc)).far (p := ⟨x7, 3, none⟩) (by simp; omega) (.slice q7.ad f.nd q7.kd)).far (p := ⟨x7, 4, none⟩) (by simp; omega) (.slice q7.ai f.ni q7.ki)).far (p := ⟨x7, 5, none⟩) (by simp; omega) (.slice q7.a4 f.nt q7.kt)))
          have B5n := Lib.hid (show HasBlk ((((((v7.setCell ⟨x7, 0, none⟩ (.int .i64 f.W)).setCell ⟨x7, 1, none⟩ (.int .i64 f.H)).setCell ⟨x7, 2, none⟩ (.slice q7.ac f.nc q7.kc)).setCell ⟨x7, 3, none⟩ (.slice q7.ad f.nd q7.kd)).setCell ⟨x7, 4, none⟩ (.slice q7.ai f.ni q7.ki)).setCell ⟨x7, 5, none⟩ (.slice q7.a4 f.nt q7.kt)) (w.heap.size + 1 + 1) 55 _ from ((((((B5.out.far (p := ⟨x7, 0, none⟩) (by simp; omega) (.int .i64 f.W)).far (p := ⟨x7, 1, none⟩) (by simp; omega) (.int .i64 f.H)).far (p := ⟨x7, 2, none⟩) (by simp; omega) (.slice q7.ac f.nc q7.kc)).far (p := ⟨x7, 3, none⟩) (by simp; omega) (.slice q7.ad f.nd q7.kd)).far (p := ⟨x7, 4, none⟩) (by simp; omega) (.slice q7.ai f.ni q7.ki)).far (p := ⟨x7, 5, none⟩) (by simp; omega) (.slice q7.a4 f.nt q7.kt)))
          have HBn := Lib.hid (show Below w.heap.size w ((((((v7.setCell ⟨x7, 0, none⟩ (.int .i64 f.W)).setCell ⟨x7, 1, none⟩ (.int .i64 f.H)).setCell ⟨x7, 2, none⟩ (.slice q7.ac f.nc q7.kc)).setCell ⟨x7, 3, none⟩ (.slice q7.ad f.nd q7.kd)).setCell ⟨x7, 4, none⟩ (.slice q7.ai f.ni q7.ki)).setCell ⟨x7, 5, none⟩ (.slice q7.a4 f.nt q7.kt)) from (Below.setCell (p := ⟨x7, 5, none⟩) (Below.setCell (p := ⟨x7, 4, none⟩) (Below.setCell (p := ⟨x7, 3, none⟩) (Below.setCell (p := ⟨x7, 2, none⟩) (Below.setCell (p := ⟨x7, 1, none⟩) (Below.setCell (p := ⟨x7, 0, none⟩) HB.out (hl1) (.int .i64 f.W)) (hl1) (.int .i64 f.H)) (hl1) (.slice q7.ac f.nc q7.kc)) (hl1) (.slice q7.ad f.nd q7.kd)) (hl1) (.slice q7.ai f.ni q7.ki)) (hl1) (.slice q7.a4 f.nt q7.kt)))
          have O7n := Lib.hid (show FOwn w.heap.size ((((((v7.setCell ⟨x7, 0, none⟩ (.int .i64 f.W)).setCell ⟨x7, 1, none⟩ (.int .i64 f.H)).setCell ⟨x7, 2, none⟩ (.slice q7.ac f.nc q7.kc)).setCell ⟨x7, 3, none⟩ (.slice q7.ad f.nd q7.kd)).setCell ⟨x7, 4, none⟩ (.slice q7.ai f.ni q7.ki)).setCell ⟨x7, 5, none⟩ (.slice q7.a4 f.nt q7.kt)) q7 f from ((((((O7.out.pset (j := 0) Zx7.out (by decide) (by decide) (.int .i64 f.W)).pset (j := 1) (Zx7.out.set 0 (.int .i64 f.W)) (by decide) (by decide) (.int .i64 f.H)).pset (j := 2) ((Zx7.out.set 0 (.int .i64 f.W)).set 1 (.int .i64 f.H)) (by decide) (by decide) (.slice q7.ac f.nc q7.kc)).pset (j := 3) (((Zx7.out.set 0 (.int .i64 f.W)).set 1 (.int .i64 f.H)).set 2 (.slice q7.ac f.nc q7.kc)) (by decide) (by decide) (.slice q7.ad f.nd q7.kd)).pset (j := 4) ((((Zx7.out.set 0 (.int .i64 f.W)).set 1 (.int .i64 f.H)).set 2 (.slice q7.ac f.nc q7.kc)).set 3 (.slice q7.ad f.nd q7.kd)) (by decide) (by decide) (.slice q7.ai f.ni q7.ki)).pset (j := 5) (((((Zx7.out.set 0 (.int .i64 f.W)).set 1 (.int .i64 f.H)).set 2 (.slice q7.ac f.nc q7.kc)).set 3 (.slice q7.ad f.nd q7.kd)).set 4 (.slice q7.ai f.ni q7.ki)) (by decide) (by decide) (.slice q7.a4 f.nt q7.kt)))
          have O8n := Lib.hid (show POwn w.heap.size ((((((v7.setCell ⟨x7, 0, none⟩ (.int .i64 f.W)).setCell ⟨x7, 1, none⟩ (.int .i64 f.H)).setCell ⟨x7, 2, none⟩ (.slice q7.ac f.nc q7.kc)).setCell ⟨x7, 3, none⟩ (.slice q7.ad f.nd q7.kd)).setCell ⟨x7, 4, none⟩ (.slice q7.ai f.ni q7.ki)).setCell ⟨x7, 5, none⟩ (.slice q7.a4 f.nt q7.kt)) q8 d from ((((((O8.out.pset (j := 0) Zx7.out (by decide) (by decide) (.int .i64 f.W)).pset (j := 1) (Zx7.out.set 0 (.int .i64 f.W)) (by decide) (by decide) (.int .i64 f.H)).pset (j := 2) ((Zx7.out.set 0 (.int .i64 f.W)).set 1 (.int .i64 f.H)) (by decide) (by decide) (.slice q7.ac f.nc q7.kc)).pset (j := 3) (((Zx7.out.set 0 (.int .i64 f.W)).set 1 (.int .i64 f.H)).set 2 (.slice q7.ac f.nc q7.kc)) (by decide) (by decide) (.slice q7.ad f.nd q7.kd)).pset (j := 4) ((((Zx7.out.set 0 (.int .i64 f.W)).set 1 (.int .i64 f.H)).set 2 (.slice q7.ac f.nc q7.kc)).set 3 (.slice q7.ad f.nd q7.kd)) (by decide) (by decide) (.slice q7.ai f.ni q7.ki)).pset (j := 5) (((((Zx7.out.set 0 (.int .i64 f.W)).set 1 (.int .i64 f.H)).set 2 (.slice q7.ac f.nc q7.kc)).set 3 (.slice q7.ad f.nd q7.kd)).set 4 (.slice q7.ai f.ni q7.ki)) (by decide) (by decide) (.slice q7.a4 f.nt q7.kt)))
          clear Zx7 Zx8 B3 B4 B5 HB O7 O8 HS z0 zf0 z1 zf1 z2 zf2 z3 zf3 z4 zf4 z5 zf5 zz hl1 hl2
          have Zx7 := Lib.hid Zx7n.out
          have Zx8 := Lib.hid Zx8n.out
          have B3 := Lib.hid B3n.out
          have B4 := Lib.hid B4n.out
          have B5 := Lib.hid B5n.out
          have HB := Lib.hid HBn.out
          have O7 := Lib.hid O7n.out
          have O8 := Lib.hid O8n.out
          clear Zx7n Zx8n B3n B4n B5n HBn O7n O8n
          have HS := Lib.hid (show (fun Wo => HasBlk Wo w.heap.size 29 #[.int .i64 f.W, .int .i64 f.H, .slice p.ac f.nc p.kc, .slice p.ad f.nd p.kd, .slice p.ai f.ni p.ki, .slice p.a4 f.nt p.kt] ∧ HasBlk Wo (w.heap.size + 1) 51 #[.slice q.A d.n q.c]) ((((((v7.setCell ⟨x7, 0, none⟩ (.int .i64 f.W)).setCell ⟨x7, 1, none⟩ (.int .i64 f.H)).setCell ⟨x7, 2, none⟩ (.slice q7.ac f.nc q7.kc)).setCell ⟨x7, 3, none⟩ (.slice q7.ad f.nd q7.kd)).setCell ⟨x7, 4, none⟩ (.slice q7.ai f.ni q7.ki)).setCell ⟨x7, 5, none⟩ (.slice q7.a4 f.nt q7.kt)) from ⟨B3.out, B4.out⟩)
          refine HK _ _ (fun _ => HS.out) ?_
          clear HK
          generalize ((((((v7.setCell ⟨x7, 0, none⟩ (.int .i64 f.W)).setCell ⟨x7, 1, none⟩ (.int .i64 f.H)).setCell ⟨x7, 2, none⟩ (.slice q7.ac f.nc q7.kc)).setCell ⟨x7, 3, none⟩ (.slice q7.ad f.nd q7.kd)).setCell ⟨x7, 4, none⟩ (.slice q7.ai f.ni q7.ki)).setCell ⟨x7, 5, none⟩ (.slice q7.a4 f.nt q7.kt)) = va at *
          refine wpAnyE_step (i := 7) rfl (by kernel_rfl) (fun KQ HK => ?_)
          have z0 := Zx8.out.cell 0
          have zf0 := Zx8.out.frozen 0
          have zz := Zx8.out.lt
          simp at z0
          go_wp2
          have hl1 := Lx8.out.1
          have hl2 := Lx8.out.2
          have Zx8n := Lib.hid (show HasBlk (va.setCell ⟨x8, 0, none⟩ (.slice q8.A d.n q8.c)) x8 51 #[.slice q8.A d.n q8.c] by simpa using ((Zx8.out).set 0 (.slice q8.A d.n q8.c)))
          have Zx7n := Lib.hid (show HasBlk (va.setCell ⟨x8, 0, none⟩ (.slice q8.A d.n q8.c)) x7 29 _ from (Zx7.out.far (p := ⟨x8, 0, none⟩) (by simp; omega) (.slice q8.A d.n q8.c)))
          have B3n := Lib.hid (show HasBlk (va.setCell ⟨x8, 0, none⟩ (.slice q8.A d.n q8.c)) w.heap.size 29 _ from (B3.out.far (p := ⟨x8, 0, none⟩) (by simp; omega) (.slice q8.A d.n q8.c)))
          have B4n := Lib.hid (show HasBlk (va.setCell ⟨x8, 0, none⟩ (.slice q8.A d.n q8.c)) (w.heap.size + 1) 51 _ from (B4.out.far (p := ⟨x8, 0, none⟩) (by simp; omega) (.slice q8.A d.n q8.c)))
          have B5n := Lib.hid (show HasBlk (va.setCell ⟨x8, 0, none⟩ (.slice q8.A d.n q8.c)) (w.heap.size + 1 + 1) 55 _ from (B5.out.far (p := ⟨x8, 0, none⟩) (by simp; omega) (.slice q8.A d.n q8.c)))
          have HBn := Lib.hid (show Below w.heap.size w (va.setCell ⟨x8, 0, none⟩ (.slice q8.A d.n q8.c)) from (Below.setCell (p := ⟨x8, 0, none⟩) HB.out (hl1) (.slice q8.A d.n q8.c)))
          have O7n := Lib.hid (show FOwn w.heap.size (va.setCell ⟨x8, 0, none⟩ (.slice q8.A d.n q8.c)) q7 f from (O7.out.pset (j := 0) Zx8.out (by decide) (by decide) (.slice q8.A d.n q8.c)))
          have O8n := Lib.hid (show POwn w.heap.size (va.setCell ⟨x8, 0, none⟩ (.slice q8.A d.n q8.c)) q8 d from (O8.out.pset (j := 0) Zx8.out (by decide) (by decide) (.slice q8.A d.n q8.c)))
          clear Zx8 Zx7 B3 B4 B5 HB O7 O8 HS z0 zf0 zz hl1 hl2
          have Zx8 := Lib.hid Zx8n.out
          have Zx7 := Lib.hid Zx7n.out
          have B3 := Lib.hid B3n.out
          have B4 := Lib.hid B4n.out
          have B5 := Lib.hid B5n.out
          have HB := Lib.hid HBn.out
          have O7 := Lib.hid O7n.out
          have O8 := Lib.hid O8n.out
          clear Zx8n Zx7n B3n B4n B5n HBn O7n O8n
          have HS := Lib.hid (show (fun Wo => HasBlk Wo w.heap.size 29 #[.int .i64 f.W, .int .i64 f.H, .slice p.ac f.nc p.kc, .slice p.ad f.nd p.kd, .slice p.ai f.ni p.ki, .slice p.a4 f.nt p.kt] ∧ HasBlk Wo (w.heap.size + 1) 51 #[.slice q.A d.n q.c]) (va.setCell ⟨x8, 0, none⟩ (.slice q8.A d.n q8.c)) from ⟨B3.out, B4.out⟩)
          refine HK _ _ (fun _ => HS.out) ?_
          clear HK
          generalize (va.setCell ⟨x8, 0, none⟩ (.slice q8.A d.n q8.c)) = vb at *
          refine wpAnyE_done (by kernel_rfl) ?_
          go_wp2_with fail
          go_meet
          exact ⟨x7, x8, q7, q8, rfl, rfl, Zx7.out, Zx8.out, O7.out.ok, O8.out.ok, B3.out, B4.out, B5.out, HB.out⟩
      · go_wp2
        have hbel := (Below.refl v4.heap.size v4).alloc (Nat.le_refl _) (.cells #[.slice none 0 0] 51)
        have Zx8 := Lib.hid (hasBlk_new v4 51 #[.slice none 0 0])
        clear HS
        have Lx8 := Lib.hid (show w.heap.size ≤ v4.heap.size ∧ (w.heap.size + 1 + 1) < v4.heap.size from ⟨HB.out.size, B5.out.lt⟩)
        have hne := Zx7.out.lt
        have B3' := Lib.hid (B3.out.below (hbel))
        have B4' := Lib.hid (B4.out.below (hbel))
        have B5' := Lib.hid (B5.out.below (hbel))
        have OF' := Lib.hid (OF.out.below (hbel))
        have OP' := Lib.hid (OP.out.below (hbel))
        have Zx7' := Lib.hid (Zx7.out.below (hbel))
        have HB' := Lib.hid (HB.out.trans ((hbel).mono HB.out.size))
        clear B3 B4 B5 OF OP Zx7 HB
        have B3 := Lib.hid B3'.out
        have B4 := Lib.hid B4'.out
        have B5 := Lib.hid B5'.out
        have OF := Lib.hid OF'.out
        have OP := Lib.hid OP'.out
        have Zx7 := Lib.hid Zx7'.out
        have HB := Lib.hid HB'.out
        clear B3' B4' B5' OF' OP' Zx7' HB'
        have HS := Lib.hid (show (fun Wo => HasBlk Wo w.heap.size 29 #[.int .i64 f.W, .int .i64 f.H, .slice p.ac f.nc p.kc, .slice p.ad f.nd p.kd, .slice p.ai f.ni p.ki, .slice p.a4 f.nt p.kt] ∧ HasBlk Wo (w.heap.size + 1) 51 #[.slice q.A d.n q.c]) (v4.alloc (.cells #[.slice none 0 0] 51)) from ⟨B3.out, B4.out⟩)
        clear hbel
        refine HK _ _ (fun _ => HS.out) ?_
        clear HK
        obtain ⟨x8, hx8⟩ : ∃ x8, x8 = v4.heap.size := ⟨_, rfl⟩
        rw [← hx8] at Zx8 Lx8 ⊢
        rw [← hx8] at hne
        clear hx8
        generalize v4.alloc (.cells #[.slice none 0 0] 51) = v5 at *
        refine wpAnyE_step (i := 1) rfl (by kernel_rfl) (fun KQ HK => ?_)
        have KX := Lib.hid (reftwin_any p f v5 OF.out FT.out)
        go_wp2_with fail
        refine KX.out.mono ?_
        rintro e v6 ⟨⟨q7, rfl, hown⟩, bel⟩
        have O7 := Lib.hid (hown.base HB.out.size)
        clear KX hown HS
        have B3' := Lib.hid (B3.out.below (bel))
        have B4' := Lib.hid (B4.out.below (bel))
        have B5' := Lib.hid (B5.out.below (bel))
        have OF' := Lib.hid (OF.out.below (bel))
        have OP' := Lib.hid (OP.out.below (bel))
        have Zx7' := Lib.hid (Zx7.out.below (bel))
        have Zx8' := Lib.hid (Zx8.out.below (bel))
        have HB' := Lib.hid (HB.out.trans ((bel).mono HB.out.size))
        clear B3 B4 B5 OF OP Zx7 Zx8 HB
        have B3 := Lib.hid B3'.out
        have B4 := Lib.hid B4'.out
        have B5 := Lib.hid B5'.out
        have OF := Lib.hid OF'.out
        have OP := Lib.hid OP'.out
        have Zx7 := Lib.hid Zx7'.out
        have Zx8 := Lib.hid Zx8'.out
        have HB := Lib.hid HB'.out
        clear B3' B4' B5' OF' OP' Zx7' Zx8' HB'
        clear bel
        have HS := Lib.hid (show (fun Wo => HasBlk Wo w.heap.size 29 #[.int .i64 f.W, .int .i64 f.H, .slice p.ac f.nc p.kc, .slice p.ad f.nd p.kd, .slice p.ai f.ni p.ki, .slice p.a4 f.nt p.kt] ∧ HasBlk Wo (w.heap.size + 1) 51 #[.slice q.A d.n q.c]) v6 from ⟨B3.out, B4.out⟩)
        go_wp2
        refine HK _ _ (fun _ => HS.out) ?_
        clear HK
        refine wpAnyE_step (i := 3) rfl (by kernel_rfl) (fun KQ HK => ?_)
        have KX := Lib.hid (ptwin_any d q NP.out v6 OP.out)
        go_wp2_with fail
        refine KX.out.mono ?_
        rintro e v7 ⟨⟨q8, rfl, hown⟩, bel⟩
        have O8 := Lib.hid (hown.base HB.out.size)
        clear KX hown HS
        have B3' := Lib.hid (B3.out.below (bel))
        have B4' := Lib.hid (B4.out.below (bel))
        have B5' := Lib.hid (B5.out.below (bel))
        have OF' := Lib.hid (OF.out.below (bel))
        have OP' := Lib.hid (OP.out.below (bel))
        have Zx7' := Lib.hid (Zx7.out.below (bel))
        have Zx8' := Lib.hid (Zx8.out.below (bel))
        have O7' := Lib.hid (O7.out.below (bel))
        have HB' := Lib.hid (HB.out.trans ((bel).mono HB.out.size))
        clear B3 B4 B5 OF OP Zx7 Zx8 O7 HB
        have B3 := Lib.hid B3'.out
        have B4 := Lib.hid B4'.out
        have B5 := Lib.hid B5'.out
        have OF := Lib.hid OF'.out
        have OP := Lib.hid OP'.out
        have Zx7 := Lib.hid Zx7'.out
        have Zx8 := Lib.hid Zx8'.out
        have O7 := Lib.hid O7'.out
        have HB := Lib.hid HB'.out
        clear B3' B4' B5' OF' OP' Zx7' Zx8' O7' HB'
        clear bel
        have HS := Lib.hid (show (fun Wo => HasBlk Wo w.heap.size 29 #[.int .i64 f.W, .int .i64 f.H, .slice p.ac f.nc p.kc, .slice p.ad f.nd p.kd, .slice p.ai f.ni p.ki, .slice p.a4 f.nt p.kt] ∧ HasBlk Wo (w.heap.size + 1) 51 #[.slice q.A d.n q.c]) v7 from ⟨B3.out, B4.out⟩)
        go_wp2
        refine HK _ _ (fun _ => HS.out) ?_
        clear HK
        refine wpAnyE_step (i := 6) rfl (by kernel_rfl) (fun KQ HK => ?_)
        have z0 := Zx7.out.cell 0
        have zf0 := Zx7.out.frozen 0
        have z1 := Zx7.out.cell 1
        have zf1 := Zx7.out.frozen 1
        have z2 := Zx7.out.cell 2
        have zf2 := Zx7.out.frozen 2
        have z3 := Zx7.out.cell 3
        have zf3 := Zx7.out.frozen 3
        have z4 := Zx7.out.cell 4
        have zf4 := Zx7.out.frozen 4
        have z5 := Zx7.out.cell 5
        have zf5 := Zx7.out.frozen 5
        have zz := Zx7.out.lt
        simp at z0 z1 z2 z3 z4 z5
        go_wp2
        have hl1 := Lx7.out.1
        have hl2 := Lx7.out.2
        have Zx7n := Lib.hid (show HasBlk ((((((v7.setCell ⟨x7, 0, none⟩ (.int .i64 f.W)).setCell ⟨x7, 1, none⟩ (.int .i64 f.H)).setCell ⟨x7, 2, none⟩ (.slice q7.ac f.nc q7.kc)).setCell ⟨x7, 3, none⟩ (.slice q7.ad f.nd q7.kd)).setCell ⟨x7, 4, none⟩ (.slice q7.ai f.ni q7.ki)).setCell ⟨x7, 5, none⟩ (.slice q7.a4 f.nt q7.kt)) x7 29 #[.int .i64 f.W, .int .i64 f.H, .slice q7.ac f.nc q7.kc, .slice q7.ad f.nd q7.kd, .slice q7.ai f.ni q7.ki, .slice q7.a4 f.nt q7.kt] by simpa using ((((((((((((Zx7.out).set 0 (.int .i64 f.W))).set 1 (.int .i64 f.H))).set 2 (.slice q7.ac f.nc q7.kc))).set 3 (.slice q7.ad f.nd q7.kd))).set 4 (.slice q7.ai f.ni q7.ki))).set 5 (.slice q7.a4 f.nt q7.kt)))
        have Zx8n := Lib.hid (show HasBlk ((((((v7.setCell ⟨x7, 0, none⟩ (.int .i64 f.W)).setCell ⟨x7, 1, none⟩ (.int .i64 f.H)).setCell ⟨x7, 2, none⟩ (.slice q7.ac f.nc q7.kc)).setCell ⟨x7, 3, none⟩ (.slice q7.ad f.nd q7.kd)).setCell ⟨x7, 4, none⟩ (.slice q7.ai f.ni q7.ki)).setCell ⟨x7, 5, none⟩ (.slice q7.a4 f.nt q7.kt)) x8 51 _ from ((((((Zx8.out.far (p := ⟨x7, 0, none⟩) (by simp; omega) (.int .i64 f.W)).far (p := ⟨x7, 1, none⟩) (by simp; omega) (.int .i64 f.H)).far (p := ⟨x7, 2, none⟩) (by simp; omega) (.slice q7.ac f.nc q7.kc)).far (p := ⟨x7, 3, none⟩) (by simp; omega) (.slice q7.ad f.nd q7.kd)).far (p := ⟨x7, 4, none⟩) (by simp; omega) (.slice q7.ai f.ni q7.ki)).far (p := ⟨x7, 5, none⟩) (by simp; omega) (.slice q7.a4 f.nt q7.kt)))
        have B3n := Lib.hid (show HasBlk ((((((v7.setCell ⟨x7, 0, none⟩ (.int .i64 f.W)).setCell ⟨x7, 1, none⟩ (.int .i64 f.H)).setCell ⟨x7, 2, none⟩ (.slice q7.ac f.nc q7.kc)).setCell ⟨x7, 3, none⟩ (.slice q7.ad f.nd q7.kd)).setCell ⟨x7, 4, none⟩ (.slice q7.ai f.ni q7.ki)).setCell ⟨x7, 5, none⟩ (.slice q7.a4 f.nt q7.kt)) w.heap.size 29 _ from ((((((B3.out.far (p := ⟨x7, 0, none⟩) (by simp; omega) (.int .i64 f.W)).far (p := ⟨x7, 1, none⟩) (by simp; omega) (.int .i64 f.H)).far (p := ⟨x7, 2, none⟩) (by simp; omega) (.slice q7.ac f.nc q7.kc)).far (p := ⟨x7, 3, none⟩) (by simp; omega) (.slice q7.ad f.nd q7.kd)).far (p := ⟨x7, 4, none⟩) (by simp; omega) (.slice q7.ai f.ni q7.ki)).far (p := ⟨x7, 5, none⟩) (by simp; omega) (.slice q7.a4 f.nt q7.kt)))
        have B4n := Lib.hid (show HasBlk ((((((v7.setCell ⟨x7, 0, none⟩ (.int .i64 f.W)).setCell ⟨x7, 1, none⟩ (.int .i64 f.H)).setCell ⟨x7, 2, none⟩ (.slice q7.ac f.nc q7.kc)).setCell ⟨x7, 3, none⟩ (.slice q7.ad f.nd q7.kd)).setCell ⟨x7, 4, none⟩ (.slice q7.ai f.ni q7.ki)).setCell ⟨x7, 5, none⟩ (.slice q7.a4 f.nt q7.kt)) (w.heap.size + 1) 51 _ from ((((((B4.out.far (p := ⟨x7, 0, none⟩) (by simp; omega) (.int .i64 f.W)).far (p := ⟨x7, 1, none⟩) (by simp; omega) (.int .i64 f.H)).far (p := ⟨x7, 2, none⟩) (by simp; omega) (.slice q7.ac f.nc q7.kc)).far (p := ⟨x7, 3, none⟩) (by simp; omega) (.slice q7.ad f.nd q7.kd)).far (p := ⟨x7, 4, none⟩) (by simp; omega) (.slice q7.ai f.ni q7.ki)).far (p := ⟨x7, 5, none⟩) (by simp; omega) (.slice q7.a4 f.nt q7.kt)))
        have B5n := Lib.hid (show HasBlk ((((((v7.setCell ⟨x7, 0, none⟩ (.int .i64 f.W)).setCell ⟨x7, 1, none⟩ (.int .i64 f.H)).setCell ⟨x7, 2, none⟩ (.slice q7.ac f.nc q7.kc)).setCell ⟨x7, 3, none⟩ (.slice q7.ad f.nd q7.kd)).setCell ⟨x7, 4, none⟩ (.slice q7.ai f.ni q7.ki)).setCell ⟨x7, 5, none⟩ (.slice q7.a4 f.nt q7.kt)) (w.heap.size + 1 + 1) 55 _ from ((((((B5.out.far (p := ⟨x7, 0, none⟩) (by simp; omega) (.int .i64 f.W)).far (p := ⟨x7, 1, none⟩) (by simp; omega) (.int .i64 f.H)).far (p := ⟨x7, 2, none⟩) (by simp; omega) (.slice q7.ac f.nc q7.kc)).far (p := ⟨x7, 3, none⟩) (by simp; omega) (.slice q7.ad f.nd q7.kd)).far (p := ⟨x7, 4, none⟩) (by simp; omega) (.slice q7.ai f.ni q7.ki)).far (p := ⟨x7, 5, none⟩) (by simp; omega) (.slice q7.a4 f.nt q7.kt)))
        have HBn := Lib.hid (show Below w.heap.size w ((((((v7.setCell ⟨x7, 0, none⟩ (.int .i64 f.W)).setCell ⟨x7, 1, none⟩ (.int .i64 f.H)).setCell ⟨x7, 2, none⟩ (.slice q7.ac f.nc q7.kc)).setCell ⟨x7, 3, none⟩ (.slice q7.ad f.nd q7.kd)).setCell ⟨x7, 4, none⟩ (.slice q7.ai f.ni q7.ki)).setCell ⟨x7, 5, none⟩ (.slice q7.a4 f.nt q7.kt)) from (Below.setCell (p := ⟨x7, 5, none⟩) (Below.setCell (p := ⟨x7, 4, none⟩) (Below.setCell (p := ⟨x7, 3, none⟩) (Below.setCell (p := ⟨x7, 2, none⟩) (Below.setCell (p := ⟨x7, 1, none⟩) (Below.setCell (p := ⟨x7, 0, none⟩) HB.out (hl1) (.int .i64 f.W)) (hl1) (.int .i64 f.H)) (hl1) (.slice q7.ac f.nc q7.kc)) (hl1) (.slice q7.ad f.nd q7.kd)) (hl1) (.slice q7.ai f.ni q7.ki)) (hl1) (.slice q7.a4 f.nt q7.kt)))
        have O7n := Lib.hid (show FOwn w.heap.size ((((((v7.setCell ⟨x7, 0, none⟩ (.int .i64 f.W)).setCell ⟨x7, 1, none⟩ (.int .i64 f.H)).setCell ⟨x7, 2, none⟩ (.slice q7.ac f.nc q7.kc)).setCell ⟨x7, 3, none⟩ (.slice q7.ad f.nd q7.kd)).setCell ⟨x7, 4, none⟩ (.slice q7.ai f.ni q7.ki)).setCell ⟨x7, 5, none⟩ (.slice q7.a4 f.nt q7.kt)) q7 f from ((((((O7.out.pset (j := 0) Zx7.out (by decide) (by decide) (.int .i64 f.W)).pset (j := 1) (Zx7.out.set 0 (.int .i64 f.W)) (by decide) (by decide) (.int .i64 f.H)).pset (j := 2) ((Zx7.out.set 0 (.int .i64 f.W)).set 1 (.int .i64 f.H)) (by decide) (by decide) (.slice q7.ac f.nc q7.kc)).pset (j := 3) (((Zx7.out.set 0 (.int .i64 f.W)).set 1 (.int .i64 f.H)).set 2 (.slice q7.ac f.nc q7.kc)) (by decide) (by decide) (.slice q7.ad f.nd q7.kd)).pset (j := 4) ((((Zx7.out.set 0 (.int .i64 f.W)).set 1 (.int .i64 f.H)).set 2 (.slice q7.ac f.nc q7.kc)).set 3 (.slice q7.ad f.nd q7.kd)) (by decide) (by decide) (.slice q7.ai f.ni q7.ki)).pset (j := 5) (((((Zx7.out.set 0 (.int .i64 f.W)).set 1 (.int .i64 f.H)).set 2 (.slice q7.ac f.nc q7.kc)).set 3 (.slice q7.ad f.nd q7.kd)).set 4 (.slice q7.ai f.ni q7.ki)) (by decide) (by decide) (.slice q7.a4 f.nt q7.kt)))
        have O8n := Lib.hid (show POwn w.heap.size ((((((v7.setCell ⟨x7, 0, none⟩ (.int .i64 f.W)).setCell ⟨x7, 1, none⟩ (.int .i64 f.H)).setCell ⟨x7, 2, none⟩ (.slice q7.ac f.nc q7.kc)).setCell ⟨x7, 3, none⟩ (.slice q7.ad f.nd q7.kd)).setCell ⟨x7, 4, none⟩ (.slice q7.ai f.ni q7.ki)).setCell ⟨x7, 5, none⟩ (.slice q7.a4 f.nt q7.kt)) q8 d from ((((((O8.out.pset (j := 0) Zx7.out (by decide) (by decide) (.int .i64 f.W)).pset (j := 1) (Zx7.out.set 0 (.int .i64 f.W)) (by decide) (by decide) (.int .i64 f.H)).pset (j := 2) ((Zx7.out.set 0 (.int .i64 f.W)).set 1 (.int .i64 f.H)) (by decide) (by decide) (.slice q7.ac f.nc q7.kc)).pset (j := 3) (((Zx7.out.set 0 (.int .i64 f.W)).set 1 (.int .i64 f.H)).set 2 (.slice q7.ac f.nc q7.kc)) (by decide) (by decide) (.slice q7.ad f.nd q7.kd)).pset (j := 4) ((((Zx7.out.set 0 (.int .i64 f.W)).set 1 (.int .i64 f.H)).set 2 (.slice q7.ac f.nc q7.kc)).set 3 (.slice q7.ad f.nd q7.kd)) (by decide) (by decide) (.slice q7.ai f.ni q7.ki)).pset (j := 5) (((((Zx7.out.set 0 (.int .i64 f.W)).set 1 (.int .i64 f.H)).set 2 (.slice q7.ac f.nc q7.kc)).set 3 (.slice q7.ad f.nd q7.kd)).set 4 (.slice q7.ai f.ni q7.ki)) (by decide) (by decide) (.slice q7.a4 f.nt q7.kt)))
        clear Zx7 Zx8 B3 B4 B5 HB O7 O8 HS z0 zf0 z1 zf1 z2 zf2 z3 zf3 z4 zf4 z5 zf5 zz hl1 hl2
        have Zx7 := Lib.hid Zx7n.out
        have Zx8 := Lib.hid Zx8n.out
        have B3 := Lib.hid B3n.out
        have B4 := Lib.hid B4n.out
        have B5 := Lib.hid B5n.out
        have HB := Lib.hid HBn.out
        have O7 := Lib.hid O7n.out
        have O8 := Lib.hid O8n.out
        clear Zx7n Zx8n B3n B4n B5n HBn O7n O8n
        have HS := Lib.hid (show (fun Wo => HasBlk Wo w.heap.size 29 #[.int .i64 f.W, .int .i64 f.H, .slice p.ac f.nc p.kc, .slice p.ad f.nd p.kd, .slice p.ai f.ni p.ki, .slice p.a4 f.nt p.kt] ∧ HasBlk Wo (w.heap.size + 1) 51 #[.slice q.A d.n q.c]) ((((((v7.setCell ⟨x7, 0, none⟩ (.int .i64 f.W)).setCell ⟨x7, 1, none⟩ (.int .i64 f.H)).setCell ⟨x7, 2, none⟩ (.slice q7.ac f.nc q7.kc)).setCell ⟨x7, 3, none⟩ (.slice q7.ad f.nd q7.kd)).setCell ⟨x7, 4, none⟩ (.slice q7.ai f.ni q7.ki)).setCell ⟨x7, 5, none⟩ (.slice q7.a4 f.nt q7.kt)) from ⟨B3.out, B4.out⟩)
        refine HK _ _ (fun _ => HS.out) ?_
        clear HK
        generalize ((((((v7.setCell ⟨x7, 0, none⟩ (.int .i64 f.W)).setCell ⟨x7, 1, none⟩ (.int .i64 f.H)).setCell ⟨x7, 2, none⟩ (.slice q7.ac f.nc q7.kc)).setCell ⟨x7, 3, none⟩ (.slice q7.ad f.nd q7.kd)).setCell ⟨x7, 4, none⟩ (.slice q7.ai f.ni q7.ki)).setCell ⟨x7, 5, none⟩ (.slice q7.a4 f.nt q7.kt)) = va at *
        refine wpAnyE_step (i := 7) rfl (by kernel_rfl) (fun KQ HK => ?_)
        have z0 := Zx8.out.cell 0
        have zf0 := Zx8.out.frozen 0
        have zz := Zx8.out.lt
        simp at z0
        go_wp2
        have hl1 := Lx8.out.1
        have hl2 := Lx8.out.2
        have Zx8n := Lib.hid (show HasBlk (va.setCell ⟨x8, 0, none⟩ (.slice q8.A d.n q8.c)) x8 51 #[.slice q8.A d.n q8.c] by simpa using ((Zx8.out).set 0 (.slice q8.A d.n q8.c)))
        have Zx7n := Lib.hid (show HasBlk (va.setCell ⟨x8, 0, none⟩ (.slice q8.A d.n q8.c)) x7 29 _ from (Zx7.out.far (p := ⟨x8, 0, none⟩) (by simp; omega) (.slice q8.A d.n q8.c)))
        have B3n := Lib.hid (show HasBlk (va.setCell ⟨x8, 0, none⟩ (.slice q8.A d.n q8.c)) w.heap.size 29 _ from (B3.out.far (p := ⟨x8, 0, none⟩) (by simp; omega) (.slice q8.A d.n q8.c)))
        have B4n := Lib.hid (show HasBlk (va.setCell ⟨x8, 0, none⟩ (.slice q8.A d.n q8.c)) (w.heap.size + 1) 51 _ from (B4.out.far (p := ⟨x8, 0, none⟩) (by simp; omega) (.slice q8.A d.n q8.c)))
        have B5n := Lib.hid (show HasBlk (va.setCell ⟨x8, 0, none⟩ (.slice q8.A d.n q8.c)) (w.heap.size + 1 + 1) 55 _ from (B5.out.far (p := ⟨x8, 0, none⟩) (by simp; omega) (.slice q8.A d.n q8.c)))
        have HBn := Lib.hid (show Below w.heap.size w (va.setCell ⟨x8, 0, none⟩ (.slice q8.A d.n q8.c)) from (Below.setCell (p := ⟨x8, 0, none⟩) HB.out (hl1) (.slice q8.A d.n q8.c)))
        have O7n := Lib.hid (show FOwn w.heap.size (va.setCell ⟨x8, 0, none⟩ (.slice q8.A d.n q8.c)) q7 f from (O7.out.pset (j := 0) Zx8.out (by decide) (by decide) (.slice q8.A d.n q8.c)))
        have O8n := Lib.hid (show POwn w.heap.size (va.setCell ⟨x8, 0, none⟩ (.slice q8.A d.n q8.c)) q8 d from (O8.out.pset (j := 0) Zx8.out (by decide) (by decide) (.slice q8.A d.n q8.c)))
        clear Zx8 Zx7 B3 B4 B5 HB O7 O8 HS z0 zf0 zz hl1 hl2
        have Zx8 := Lib.hid Zx8n.out
        have Zx7 := Lib.hid Zx7n.out
        have B3 := Lib.hid B3n.out
        have B4 := Lib.hid B4n.out
        have B5 := Lib.hid B5n.out
        have HB := Lib.hid HBn.out
        have O7 := Lib.hid O7n.out
        have O8 := Lib.hid O8n.out
        clear Zx8n Zx7n B3n B4n B5n HBn O7n O8n
        have HS := Lib.hid (show (fun Wo => HasBlk Wo w.heap.size 29 #[.int .i64 f.W, .int .i64 f.H, .slice p.ac f.nc p.kc, .slice p.ad f.nd p.kd, .slice p.ai f.ni p.ki, .slice p.a4 f.nt p.kt] ∧ HasBlk Wo (w.heap.size + 1) 51 #[.slice q.A d.n q.c]) (va.setCell ⟨x8, 0, none⟩ (.slice q8.A d.n q8.c)) from ⟨B3.out, B4.out⟩)
        refine HK _ _ (fun _ => HS.out) ?_
        clear HK
        generalize (va.setCell ⟨x8, 0, none⟩ (.slice q8.A d.n q8.c)) = vb at *
        refine wpAnyE_done (by kernel_rfl) ?_
        go_wp2_with fail
        go_meet
        exact ⟨x7, x8, q7, q8, rfl, rfl, Zx7.out, Zx8.out, O7.out.ok, O8.out.ok, B3.out, B4.out, B5.out, HB.out⟩
    · go_wp2
      have hbel := (Below.refl v3.heap.size v3).alloc (Nat.le_refl _) (.cells #[.slice none 0 0] 51)
      have Zx8 := Lib.hid (hasBlk_new v3 51 #[.slice none 0 0])
      clear HS
      have Lx8 := Lib.hid (show w.heap.size ≤ v3.heap.size ∧ (w.heap.size + 1 + 1) < v3.heap.size from ⟨HB.out.size, B5.out.lt⟩)
      have B3' := Lib.hid (B3.out.below (hbel))
      have B4' := Lib.hid (B4.out.below (hbel))
      have B5' := Lib.hid (B5.out.below (hbel))
      have OF' := Lib.hid (OF.out.below (hbel))
      have OP' := Lib.hid (OP.out.below (hbel))
      have HB' := Lib.hid (HB.out.trans ((hbel).mono HB.out.size))
      clear B3 B4 B5 OF OP HB
      have B3 := Lib.hid B3'.out
      have B4 := Lib.hid B4'.out
      have B5 := Lib.hid B5'.out
      have OF := Lib.hid OF'.out
      have OP := Lib.hid OP'.out
      have HB := Lib.hid HB'.out
      clear B3' B4' B5' OF' OP' HB'
      have HS := Lib.hid (show (fun Wo => HasBlk Wo w.heap.size 29 #[.int .i64 f.W, .int .i64 f.H, .slice p.ac f.nc p.kc, .slice p.ad f.nd p.kd, .slice p.ai f.ni p.ki, .slice p.a4 f.nt p.kt] ∧ HasBlk Wo (w.heap.size + 1) 51 #[.slice q.A d.n q.c]) (v3.alloc (.cells #[.slice none 0 0] 51)) from ⟨B3.out, B4.out⟩)
      clear hbel
      refine HK _ _ (fun _ => HS.out) ?_
      clear HK
      obtain ⟨x8, hx8⟩ : ∃ x8, x8 = v3.heap.size := ⟨_, rfl⟩
      rw [← hx8] at Zx8 Lx8 ⊢
      clear hx8
      generalize v3.alloc (.cells #[.slice none 0 0] 51) = v4 at *
      refine wpAnyE_two (i := 1) (j := 4) rfl rfl (by kernel_rfl) (fun KQ HK => ?_) (fun KQ HK => ?_)
      · have KX := Lib.hid (reftwin_any p f v4 OF.out FT.out)
        go_wp2_with fail
        refine KX.out.mono ?_
        rintro e v5 ⟨⟨q7, rfl, hown⟩, bel⟩
        have O7 := Lib.hid (hown.base HB.out.size)
        clear KX hown HS
        have B3' := Lib.hid (B3.out.below (bel))
        have B4' := Lib.hid (B4.out.below (bel))
        have B5' := Lib.hid (B5.out.below (bel))
        have OF' := Lib.hid (OF.out.below (bel))
        have OP' := Lib.hid (OP.out.below (bel))
        have Zx8' := Lib.hid (Zx8.out.below (bel))
        have HB' := Lib.hid (HB.out.trans ((bel).mono HB.out.size))
        clear B3 B4 B5 OF OP Zx8 HB
        have B3 := Lib.hid B3'.out
        have B4 := Lib.hid B4'.out
        have B5 := Lib.hid B5'.out
        have OF := Lib.hid OF'.out
        have OP := Lib.hid OP'.out
        have Zx8 := Lib.hid Zx8'.out
        have HB := Lib.hid HB'.out
        clear B3' B4' B5' OF' OP' Zx8' HB'
        clear bel
        have HS := Lib.hid (show (fun Wo => HasBlk Wo w.heap.size 29 #[.int .i64 f.W, .int .i64 f.H, .slice p.ac f.nc p.kc, .slice p.ad f.nd p.kd, .slice p.ai f.ni p.ki, .slice p.a4 f.nt p.kt] ∧ HasBlk Wo (w.heap.size + 1) 51 #[.slice q.A d.n q.c]) v5 from ⟨B3.out, B4.out⟩)
        go_wp2
        refine HK _ _ (fun _ => HS.out) ?_
        clear HK
        refine wpAnyE_two (i := 3) (j := 4) rfl rfl (by kernel_rfl) (fun KQ HK => ?_) (fun KQ HK => ?_)
        · have KX := Lib.hid (ptwin_any d q NP.out v5 OP.out)
          go_wp2_with fail
          refine KX.out.mono ?_
          rintro e v6 ⟨⟨q8, rfl, hown⟩, bel⟩
          have O8 := Lib.hid (hown.base HB.out.size)
          clear KX hown HS
          have B3' := Lib.hid (B3.out.below (bel))
          have B4' := Lib.hid (B4.out.below (bel))
          have B5' := Lib.hid (B5.out.below (bel))
          have OF' := Lib.hid (OF.out.below (bel))
          have OP' := Lib.hid (OP.out.below (bel))
          have Zx8' := Lib.hid (Zx8.out.below (bel))
          have O7' := Lib.hid (O7.out.below (bel))
          have HB' := Lib.hid (HB.out.trans ((bel).mono HB.out.size))
          clear B3 B4 B5 OF OP Zx8 O7 HB
          have B3 := Lib.hid B3'.out
          have B4 := Lib.hid B4'.out
          have B5 := Lib.hid B5'.out
          have OF := Lib.hid OF'.out
          have OP := Lib.hid OP'.out
          have Zx8 := Lib.hid Zx8'.out
          have O7 := Lib.hid O7'.out
          have HB := Lib.hid HB'.out
          clear B3' B4' B5' OF' OP' Zx8' O7' HB'
          clear bel
          have HS := Lib.hid (show (fun Wo => HasBlk Wo w.heap.size 29 #[.int .i64 f.W, .int .i64 f.H, .slice p.ac f.nc p.kc, .slice p.ad f.nd p.kd, .slice p.ai f.ni p.ki, .slice p.a4 f.nt p.kt] ∧ HasBlk Wo (w.heap.size + 1) 51 #[.slice q.A d.n q.c]) v6 from ⟨B3.out, B4.out⟩)
          go_wp2
          refine HK _ _ (fun _ => HS.out) ?_
          clear HK
          refine wpAnyE_step (i := 4) rfl (by kernel_rfl) (fun KQ HK => ?_)
          go_wp2
          have hbel := (Below.refl v6.heap.size v6).alloc (Nat.le_refl _) (.cells #[.int .i64 0, .int .i64 0, .slice none 0 0, .slice none 0 0, .slice none 0 0, .slice none 0 0] 29)
          have Zx7 := Lib.hid (hasBlk_new v6 29 #[.int .i64 0, .int .i64 0, .slice none 0 0, .slice none 0 0, .slice none 0 0, .slice none 0 0])
          clear HS
          have Lx7 := Lib.hid (show w.heap.size ≤ v6.heap.size ∧ (w.heap.size + 1 + 1) < v6.heap.size from ⟨HB.out.size, B5.out.lt⟩)
          have hne := Zx8.out.lt
          have B3' := Lib.hid (B3.out.below (hbel))
          have B4' := Lib.hid (B4.out.below (hbel))
          have B5' := Lib.hid (B5.out.below (hbel))
          have OF' := Lib.hid (OF.out.below (hbel))
          have OP' := Lib.hid (OP.out.below (hbel))
          have Zx8' := Lib.hid (Zx8.out.below (hbel))
          have O7' := Lib.hid (O7.out.below (hbel))
          have O8' := Lib.hid (O8.out.below (hbel))
          have HB' := Lib.hid (HB.out.trans ((hbel).mono HB.out.size))
          clear B3 B4 B5 OF OP Zx8 O7 O8 HB
          have B3 := Lib.hid B3'.out
          have B4 := Lib.hid B4'.out
          have B5 := Lib.hid B5'.out
          have OF := Lib.hid OF'.out
          have OP := Lib.hid OP'.out
          have Zx8 := Lib.hid Zx8'.out
          have O7 := Lib.hid O7'.out
          have O8 := Lib.hid O8'.out
          have HB := Lib.hid HB'.out
          clear B3' B4' B5' OF' OP' Zx8' O7' O8' HB'
          have HS := Lib.hid (show (fun Wo => HasBlk Wo w.heap.size 29 #[.int .i64 f.W, .int .i64 f.H, .slice p.ac f.nc p.kc, .slice p.ad f.nd p.kd, .slice p.ai f.ni p.ki, .slice p.a4 f.nt p.kt] ∧ HasBlk Wo (w.heap.size + 1) 51 #[.slice q.A d.n q.c]) (v6.alloc (.cells #[.int .i64 0, .int .i64 0, .slice none 0 0, .slice none 0 0, .slice none 0 0, .slice none 0 0] 29)) from ⟨B3.out, B4.out⟩)
          clear hbel
          refine HK _ _ (fun _ => HS.out) ?_
          clear HK
          obtain ⟨x7, hx7⟩ : ∃ x7, x7 = v6.heap.size := ⟨_, rfl⟩
          rw [← hx7] at Zx7 Lx7 ⊢
          rw [← hx7] at hne
          clear hx7
          generalize v6.alloc (.cells #[.int .i64 0, .int .i64 0, .slice none 0 0, .slice none 0 0, .slice none 0 0, .slice none 0 0] 29) = v7 at *
          refine wpAnyE_step (i := 6) rfl (by kernel_rfl) (fun KQ HK => ?_)
          have z0 := Zx7.out.cell 0
          have zf0 := Zx7.out.frozen 0
          have z1 := Zx7.out.cell 1
          have zf1 := Zx7.out.frozen 1
          have z2 := Zx7.out.cell 2
          have zf2 := Zx7.out.frozen 2
          have z3 := Zx7.out.cell 3
          have zf3 := Zx7.out.frozen 3
          have z4 := Zx7.out.cell 4
          have zf4 := Zx7.out.frozen 4
          have z5 := Zx7.out.cell 5
          have zf5 := Zx7.out.frozen 5
          have zz := Zx7.out.lt
          simp at z0 z1 z2 z3 z4 z5
          go_wp2
          have hl1 := Lx7.out.1
          have hl2 := Lx7.out.2
          have Zx7n := Lib.hid (show HasBlk ((((((v7.setCell ⟨x7, 0, none⟩ (.int .i64 f.W)).setCell ⟨x7, 1, none⟩ (.int .i64 f.H)).setCell ⟨x7, 2, none⟩ (.slice q7.ac f.nc q7.kc)).setCell ⟨x7, 3, none⟩ (.slice q7.ad f.nd q7.kd)).setCell ⟨x7, 4, none⟩ (.slice q7.ai f.ni q7.ki)).setCell ⟨x7, 5, none⟩ (.slice q7.a4 f.nt q7.kt)) x7 29 #[.int .i64 f.W, .int .i64 f.H, .slice q7.ac f.nc q7.kc, .slice q7.ad f.nd q7.kd, .slice q7.ai f.ni q7.ki, .slice q7.a4 f.nt q7.kt] by simpa using ((((((((((((Zx7.out).set 0 (.int .i64 f.W))).set 1 (.int .i64 f.H))).set 2 (.slice q7.ac f.nc q7.kc))).set 3 (.slice q7.ad f.nd q7.kd))).set 4 (.slice q7.ai f.ni q7.ki))).set 5 (.slice q7.a4 f.nt q7.kt)))
          have Zx8n := Lib.hid (show HasBlk ((((((v7.setCell ⟨x7, 0, none⟩ (.int .i64 f.W)).setCell ⟨x7, 1, none⟩ (.int .i64 f.H)).setCell ⟨x7, 2, none⟩ (.slice q7.ac f.nc q7.kc)).setCell ⟨x7, 3, none⟩ (.slice q7.ad f.nd q7.kd)).setCell ⟨x7, 4, none⟩ (.slice q7.ai f.ni q7.ki)).setCell ⟨x7, 5, none⟩ (.slice q7.a4 f.nt q7.kt)) x8 51 _ from ((((((Zx8.out.far (p := ⟨x7, 0, none⟩) (by simp; omega) (.int .i64 f.W)).far (p := ⟨x7, 1, none⟩) (by simp; omega) (.int .i64 f.H)).far (p := ⟨x7, 2, none⟩) (by simp; omega) (.slice q7.ac f.nc q7.kc)).far (p := ⟨x7, 3, none⟩) (by simp; omega) (.slice q7.ad f.nd q7.kd)).far (p := ⟨x7, 4, none⟩) (by simp; omega) (.slice q7.ai f.ni q7.ki)).far (p := ⟨x7, 5, none⟩) (by simp; omega) (.slice q7.a4 f.nt q7.kt)))
          have B3n := Lib.hid (show HasBlk ((((((v7.setCell ⟨x7, 0, none⟩ (.int .i64 f.W)).setCell ⟨x7, 1, none⟩ (.int .i64 f.H)).setCell ⟨x7, 2, none⟩ (.slice q7.ac f.nc q7.kc)).setCell ⟨x7, 3, none⟩ (.slice q7.ad f.nd q7.kd)).setCell ⟨x7, 4, none⟩ (.slice q7.ai f.ni q7.ki)).setCell ⟨x7, 5, none⟩ (.slice q7.a4 f.nt q7.kt)) w.heap.size 29 _ from ((((((B3.out.far (p := ⟨x7, 0, none⟩) (by simp; omega) (.int .i64 f.W)).far (p := ⟨x7, 1, none⟩) (by simp; omega) (.int .i64 f.H)).far (p := ⟨x7, 2, none⟩) (by simp; omega) (.slice q7.ac f.nc q7.kc)).far (p := ⟨x7, 3, none⟩) (by simp; omega) (.slice q7.ad f.nd q7.kd)).far (p := ⟨x7, 4, none⟩) (by simp; omega) (.slice q7.ai f.ni q7.ki)).far (p := ⟨x7, 5, none⟩) (by simp; omega) (.slice q7.a4 f.nt q7.kt)))
          have B4n := Lib.hid (show HasBlk ((((((v7.setCell ⟨x7, 0, none⟩ (.int .i64 f.W)).setCell ⟨x7, 1, none⟩ (.int .i64 f.H)).setCell ⟨x7, 2, none⟩ (.slice q7.ac f.nc q7.kc)).setCell ⟨x7, 3, none⟩ (.slice q7.ad f.nd q7.kd)).setCell ⟨x7, 4, none⟩ (.slice q7.ai f.ni q7.ki)).setCell ⟨x7, 5, none⟩ (.slice q7.a4 f.nt q7.kt)) (w.heap.size + 1) 51 _ from ((((((B4.out.far (p := ⟨x7, 0, none⟩) (by simp; omega) (.int .i64 f.W)).far (p := ⟨x7, 1, none⟩) (by simp; omega) (.int .i64 f.H)).far (p := ⟨x7, 2, none⟩) (by simp; omega) (.slice q7.ac f.nc q7.kc)).far (p := ⟨x7, 3, none⟩) (by simp; omega) (.slice q7.ad f.nd q7.kd)).far (p := ⟨x7, 4, none⟩) (by simp; omega) (.slice q7.ai f.ni q7.ki)).far (p := ⟨x7, 5, none⟩) (by simp; omega) (.slice q7.a4 f.nt q7.kt)))
          have B5n := Lib.hid (show HasBlk ((((((v7.setCell ⟨x7, 0, none⟩ (.int .i64 f.W)).setCell ⟨x7, 1, none⟩ (.int .i64 f.H)).setCell ⟨x7, 2, none⟩ (.slice q7.ac f.nc q7.kc)).setCell ⟨x7, 3, none⟩ (.slice q7.ad f.nd q7.kd)).setCell ⟨x7, 4, none⟩ (.slice q7.ai f.ni q7.ki)).setCell ⟨x7, 5, none⟩ (.slice q7.a4 f.nt q7.kt)) (w.heap.size + 1 + 1) 55 _ from ((((((B5.out.far (p := ⟨x7, 0, none⟩) (by simp; omega) (.int .i64 f.W)).far (p := ⟨x7, 1, none⟩) (by simp; omega) (.int .i64 f.H)).far (p := ⟨x7, 2, none⟩) (by simp; omega) (.slice q7.ac f.nc q7.kc)).far (p := ⟨x7, 3, none⟩) (by simp; omega) (.slice q7.ad f.nd q7.kd)).far (p := ⟨x7, 4, none⟩) (by simp; omega) (.slice q7.ai f.ni q7.ki)).far (p := ⟨x7, 5, none⟩) (by simp; omega) (.slice q7.a4 f.nt q7.kt)))
          have HBn := Lib.hid (show Below w.heap.size w ((((((v7.setCell ⟨x7, 0, none⟩ (.int .i64 f.W)).setCell ⟨x7, 1, none⟩ (.int .i64 f.H)).setCell ⟨x7, 2, none⟩ (.slice q7.ac f.nc q7.kc)).setCell ⟨x7, 3, none⟩ (.slice q7.ad f.nd q7.kd)).setCell ⟨x7, 4, none⟩ (.slice q7.ai f.ni q7.ki)).setCell ⟨x7, 5, none⟩ (.slice q7.a4 f.nt q7.kt)) from (Below.setCell (p := ⟨x7, 5, none⟩) (Below.setCell (p := ⟨x7, 4, none⟩) (Below.setCell (p := ⟨x7, 3, none⟩) (Below.setCell (p := ⟨x7, 2, none⟩) (Below.setCell (p := ⟨x7, 1, none⟩) (Below.setCell (p := ⟨x7, 0, none⟩) HB.out (hl1) (.int .i64 f.W)) (hl1) (.int .i64 f.H)) (hl1) (.slice q7.ac f.nc q7.kc)) (hl1) (.slice q7.ad f.nd q7.kd)) (hl1) (.slice q7.ai f.ni q7.ki)) (hl1) (.slice q7.a4 f.nt q7.kt)))
          have O7n := Lib.hid (show FOwn w.heap.size ((((((v7.setCell ⟨x7, 0, none⟩ (.int .i64 f.W)).setCell ⟨x7, 1, none⟩ (.int .i64 f.H)).setCell ⟨x7, 2, none⟩ (.slice q7.ac f.nc q7.kc)).setCell ⟨x7, 3, none⟩ (.slice q7.ad f.nd q7.kd)).setCell ⟨x7, 4, none⟩ (.slice q7.ai f.ni q7.ki)).setCell ⟨x7, 5, none⟩ (.slice q7.a4 f.nt q7.kt)) q7 f from ((((((O7.out.pset (j := 0) Zx7.out (by decide) (by decide) (.int .i64 f.W)).pset (j := 1) (Zx7.out.set 0 (.int .i64 f.W)) (by decide) (by decide) (.int .i64 f.H)).pset (j := 2) ((Zx7.out.set 0 (.int .i64 f.W)).set 1 (.int .i64 f.H)) (by decide) (by decide) (.slice q7.ac f.nc q7.kc)).pset (j := 3) (((Zx7.out.set 0 (.int .i64 f.W)).set 1 (.int .i64 f.H)).set 2 (.slice q7.ac f.nc q7.kc)) (by decide) (by decide) (.slice q7.ad f.nd q7.kd)).pset (j := 4) ((((Zx7.out.set 0 (.int .i64 f.W)).set 1 (.int .i64 f.H)).set 2 (.slice q7.ac f.nc q7.kc)).set 3 (.slice q7.ad f.nd q7.kd)) (by decide) (by decide) (.slice q7.ai f.ni q7.ki)).pset (j := 5) (((((Zx7.out.set 0 (.int .i64 f.W)).set 1 (.int .i64 f.H)).set 2 (.slice q7.ac f.nc q7.kc)).set 3 (.slice q7.ad f.nd q7.kd)).set 4 (.slice q7.ai f.ni q7.ki)) (by decide) (by decide) (.slice q7.a4 f.nt q7.kt)))
          have O8n := Lib.hid (show POwn w.heap.size ((((((v7.setCell ⟨x7, 0, none⟩ (.int .i64 f.W)).setCell ⟨x7, 1, none⟩ (.int .i64 f.H)).setCell ⟨x7, 2, none⟩ (.slice q7.ac f.nc q7.kc)).setCell ⟨x7, 3, none⟩ (.slice q7.ad f.nd q7.kd)).setCell ⟨x7, 4, none⟩ (.slice q7.ai f.ni q7.ki)).setCell ⟨x7, 5, none⟩ (.slice q7.a4 f.nt q7.kt)) q8 d from ((((((O8.out.pset (j := 0) Zx7.out (by decide) (by decide) (.int .i64 f.W)).pset (j := 1) (Zx7.out.set 0 (.int .i64 f.W)) (by decide) (by decide) (.int .i64 f.H)).pset (j := 2) ((Zx7.out.set 0 (.int .i64 f.W)).set 1 (.int .i64 f.H)) (by decide) (by decide) (.slice q7.ac f.nc q7.kc)).pset (j := 3) (((Zx7.out.set 0 (.int .i64 f.W)).set 1 (.int .i64 f.H)).set 2 (.slice q7.ac f.nc q7.kc)) (by decide) (by decide) (.slice q7.ad f.nd q7.kd)).pset (j := 4) ((((Zx7.out.set 0 (.int .i64 f.W)).set 1 (.int .i64 f.H)).set 2 (.slice q7.ac f.nc q7.kc)).set 3 (.slice q7.ad f.nd q7.kd)) (by decide) (by decide) (.slice q7.ai f.ni q7.ki)).pset (j := 5) (((((Zx7.out.set 0 (.int .i64 f.W)).set 1 (.int .i64 f.H)).set 2 (.slice q7.ac f.nc q7.kc)).set 3 (.slice q7.ad f.nd q7.kd)).set 4 (.slice q7.ai f.ni q7.ki)) (by decide) (by decide) (.slice q7.a4 f.nt q7.kt)))
          clear Zx7 Zx8 B3 B4 B5 HB O7 O8 HS z0 zf0 z1 zf1 z2 zf2 z3 zf3 z4 zf4 z5 zf5 zz hl1 hl2
          have Zx7 := Lib.hid Zx7n.out
          have Zx8 := Lib.hid Zx8n.out
          have B3 := Lib.hid B3n.out
          have B4 := Lib.hid B4n.out
          have B5 := Lib.hid B5n.out
          have HB := Lib.hid HBn.out
          have O7 := Lib.hid O7n.out
          have O8 := Lib.hid O8n.out
          clear Zx7n Zx8n B3n B4n B5n HBn O7n O8n
          have HS := Lib.hid (show (fun Wo => HasBlk Wo w.heap.size 29 #[.int .i64 f.W, .int .i64 f.H, .slice p.ac f.nc p.kc, .slice p.ad f.nd p.kd, .slice p.ai f.ni p.ki, .slice p.a4 f.nt p.kt] ∧ HasBlk Wo (w.heap.size + 1) 51 #[.slice q.A d.n q.c]) ((((((v7.setCell ⟨x7, 0, none⟩ (.int .i64 f.W)).setCell ⟨x7, 1, none⟩ (.int .i64 f.H)).setCell ⟨x7, 2, none⟩ (.slice q7.ac f.nc q7.kc)).setCell ⟨x7, 3, none⟩ (.slice q7.ad f.nd q7.kd)).setCell ⟨x7, 4, none⟩ (.slice q7.ai f.ni q7.ki)).setCell ⟨x7, 5, none⟩ (.slice q7.a4 f.nt q7.kt)) from ⟨B3.out, B4.out⟩)
          refine HK _ _ (fun _ => HS.out) ?_
          clear HK
          generalize ((((((v7.setCell ⟨x7, 0, none⟩ (.int .i64 f.W)).setCell ⟨x7, 1, none⟩ (.int .i64 f.H)).setCell ⟨x7, 2, none⟩ (.slice q7.ac f.nc q7.kc)).setCell ⟨x7, 3, none⟩ (.slice q7.ad f.nd q7.kd)).setCell ⟨x7, 4, none⟩ (.slice q7.ai f.ni q7.ki)).setCell ⟨x7, 5, none⟩ (.slice q7.a4 f.nt q7.kt)) = va at *
          refine wpAnyE_step (i := 7) rfl (by kernel_rfl) (fun KQ HK => ?_)
          have z0 := Zx8.out.cell 0
          have zf0 := Zx8.out.frozen 0
          have zz := Zx8.out.lt
          simp at z0
          go_wp2
          have hl1 := Lx8.out.1
          have hl2 := Lx8.out.2
          have Zx8n := Lib.hid (show HasBlk (va.setCell ⟨x8, 0, none⟩ (.slice q8.A d.n q8.c)) x8 51 #[.slice q8.A d.n q8.c] by simpa using ((Zx8.out).set 0 (.slice q8.A d.n q8.c)))
          have Zx7n := Lib.hid (show HasBlk (va.setCell ⟨x8, 0, none⟩ (.slice q8.A d.n q8.c)) x7 29 _ from (Zx7.out.far (p := ⟨x8, 0, none⟩) (by simp; omega) (.slice q8.A d.n q8.c)))
          have B3n := Lib.hid (show HasBlk (va.setCell ⟨x8, 0, none⟩ (.slice q8.A d.n q8.c)) w.heap.size 29 _ from (B3.out.far (p := ⟨x8, 0, none⟩) (by simp; omega) (.slice q8.A d.n q8.c)))
          have B4n := Lib.hid (show HasBlk (va.setCell ⟨x8, 0, none⟩ (.slice q8.A d.n q8.c)) (w.heap.size + 1) 51 _ from (B4.out.far (p := ⟨x8, 0, none⟩) (by simp; omega) (.slice q8.A d.n q8.c)))
          have B5n := Lib.hid (show HasBlk (va.setCell ⟨x8, 0, none⟩ (.slice q8.A d.n q8.c)) (w.heap.size + 1 + 1) 55 _ from (B5.out.far (p := ⟨x8, 0, none⟩) (by simp; omega) (.slice q8.A d.n q8.c)))
          have HBn := Lib.hid (show Below w.heap.size w (va.setCell ⟨x8, 0, none⟩ (.slice q8.A d.n q8.c)) from (Below.setCell (p := ⟨x8, 0, none⟩) HB.out (hl1) (.slice q8.A d.n q8.c)))
          have O7n := Lib.hid (show FOwn w.heap.size (va.setCell ⟨x8, 0, none⟩ (.slice q8.A d.n q8.c)) q7 f from (O7.out.pset (j := 0) Zx8.out (by decide) (by decide) (.slice q8.A d.n q8.c)))
          have O8n := Lib.hid (show POwn w.heap.size (va.setCell ⟨x8, 0, none⟩ (.slice q8.A d.n q8.c)) q8 d from (O8.out.pset (j := 0) Zx8.out (by decide) (by decide) (.slice q8.A d.n q8.c)))
          clear Zx8 Zx7 B3 B4 B5 HB O7 O8 HS z0 zf0 zz hl1 hl2
          have Zx8 := Lib.hid Zx8n.out
          have Zx7 := Lib.hid Zx7n.out
          have B3 := Lib.hid B3n.out
          have B4 := Lib.hid B4n.out
          have B5 := Lib.hid B5n.out
          have HB := Lib.hid HBn.out
          have O7 := Lib.hid O7n.out
          have O8 := Lib.hid O8n.out
          clear Zx8n Zx7n B3n B4n B5n HBn O7n O8n
          have HS := Lib.hid (show (fun Wo => HasBlk Wo w.heap.size 29 #[.int .i64 f.W, .int .i64 f.H, .slice p.ac f.nc p.kc, .slice p.ad f.nd p.kd, .slice p.ai f.ni p.ki, .slice p.a4 f.nt p.kt] ∧ HasBlk Wo (w.heap.size + 1) 51 #[.slice q.A d.n q.c]) (va.setCell ⟨x8, 0, none⟩ (.slice q8.A d.n q8.c)) from ⟨B3.out, B4.out⟩)
          refine HK _ _ (fun _ => HS.out) ?_
          clear HK
          generalize (va.setCell ⟨x8, 0, none⟩ (.slice q8.A d.n q8.c)) = vb at *
          refine wpAnyE_done (by kernel_rfl) ?_
          go_wp2_with fail
          go_meet
          exact ⟨x7, x8, q7, q8, rfl, rfl, Zx7.out, Zx8.out, O7.out.ok, O8.out.ok, B3.out, B4.out, B5.out, HB.out⟩
        · go_wp2
          have hbel := (Below.refl v5.heap.size v5).alloc (Nat.le_refl _) (.cells #[.int .i64 0, .int .i64 0, .slice none 0 0, .slice none 0 0, .slice none 0 0, .slice none 0 0] 29)
          have Zx7 := Lib.hid (hasBlk_new v5 29 #[.int .i64 0, .int .i64 0, .slice none 0 0, .slice none 0 0, .slice none 0 0, .slice none 0 0])
          clear HS
          have Lx7 := Lib.hid (show w.heap.size ≤ v5.heap.size ∧ (w.heap.size + 1 + 1) < v5.heap.size from ⟨HB.out.size, B5.out.lt⟩)
          have hne := Zx8.out.lt
          have B3' := Lib.hid (B3.out.below (hbel))
          have B4' := Lib.hid (B4.out.below (hbel))
          have B5' := Lib.hid (B5.out.below (hbel))
          have OF' := Lib.hid (OF.out.below (hbel))
          have OP' := Lib.hid (OP.out.below (hbel))
          have Zx8' := Lib.hid (Zx8.out.below (hbel))
          have O7' := Lib.hid (O7.out.below (hbel))
          have HB' := Lib.hid (HB.out.trans ((hbel).mono HB.out.size))
          clear B3 B4 B5 OF OP Zx8 O7 HB
          have B3 := Lib.hid B3'.out
          have B4 := Lib.hid B4'.out
          have B5 := Lib.hid B5'.out
          have OF := Lib.hid OF'.out
          have OP := Lib.hid OP'.out
          have Zx8 := Lib.hid Zx8'.out
          have O7 := Lib.hid O7'.out
          have HB := Lib.hid HB'.out
          clear B3' B4' B5' OF' OP' Zx8' O7' HB'
          have HS := Lib.hid (show (fun Wo => HasBlk Wo w.heap.size 29 #[.int .i64 f.W, .int .i64 f.H, .slice p.ac f.nc p.kc, .slice p.ad f.nd p.kd, .slice p.ai f.ni p.ki, .slice p.a4 f.nt p.kt] ∧ HasBlk Wo (w.heap.size + 1) 51 #[.slice q.A d.n q.c]) (v5.alloc (.cells #[.int .i64 0, .int .i64 0, .slice none 0 0, .slice none 0 0, .slice none 0 0, .slice none 0 0] 29)) from ⟨B3.out, B4.out⟩)
          clear hbel
          refine HK _ _ (fun _ => HS.out) ?_
          clear HK
          obtain ⟨x7, hx7⟩ : ∃ x7, x7 = v5.heap.size := ⟨_, rfl⟩
          rw [← hx7] at Zx7 Lx7 ⊢
          rw [← hx7] at hne
          clear hx7
          generalize v5.alloc (.cells #[.int .i64 0, .int .i64 0, .slice none 0 0, .slice none 0 0, .slice none 0 0, .slice none 0 0] 29) = v6 at *
          refine wpAnyE_step (i := 3) rfl (by kernel_rfl) (fun KQ HK => ?_)
          have KX := Lib.hid (ptwin_any d q NP.out v6 OP.out)
          go_wp2_with fail
          refine KX.out.mono ?_
          rintro e v7 ⟨⟨q8, rfl, hown⟩, bel⟩
          have O8 := Lib.hid (hown.base HB.out.size)
          clear KX hown HS
          have B3' := Lib.hid (B3.out.below (bel))
          have B4' := Lib.hid (B4.out.below (bel))
          have B5' := Lib.hid (B5.out.below (bel))
          have OF' := Lib.hid (OF.out.below (bel))
          have OP' := Lib.hid (OP.out.below (bel))
          have Zx8' := Lib.hid (Zx8.out.below (bel))
          have O7' := Lib.hid (O7.out.below (bel))
          have Zx7' := Lib.hid (Zx7.out.below (bel))
          have HB' := Lib.hid (HB.out.trans ((bel).mono HB.out.size))
          clear B3 B4 B5 OF OP Zx8 O7 Zx7 HB
          have B3 := Lib.hid B3'.out
          have B4 := Lib.hid B4'.out
          have B5 := Lib.hid B5'.out
          have OF := Lib.hid OF'.out
          have OP := Lib.hid OP'.out
          have Zx8 := Lib.hid Zx8'.out
          have O7 := Lib.hid O7'.out
          have Zx7 := Lib.hid Zx7'.out
          have HB := Lib.hid HB'.out
          clear B3' B4' B5' OF' OP' Zx8' O7' Zx7' HB'
          clear bel
          have HS := Lib.hid (show (fun Wo => HasBlk Wo w.heap.size 29 #[.int .i64 f.W, .int .i64 f.H, .slice p.ac f.nc p.kc, .slice p.ad f.nd p.kd, .slice p.ai f.ni p.ki, .slice p.a4 f.nt p.kt] ∧ HasBlk Wo (w.heap.size + 1) 51 #[.slice q.A d.n q.c]) v7 from ⟨B3.out, B4.out⟩)
          go_wp2
          refine HK _ _ (fun _ => HS.out) ?_
          clear HK
          refine wpAnyE_step (i := 6) rfl (by kernel_rfl) (fun KQ HK => ?_)
          have z0 := Zx7.out.cell 0
          have zf0 := Zx7.out.frozen 0
          have z1 := Zx7.out.cell 1
          have zf1 := Zx7.out.frozen 1
          have z2 := Zx7.out.cell 2
          have zf2 := Zx7.out.frozen 2
          have z3 := Zx7.out.cell 3
          have zf3 := Zx7.out.frozen 3
          have z4 := Zx7.out.cell 4
          have zf4 := Zx7.out.frozen 4
          have z5 := Zx7.out.cell 5
          have zf5 := Zx7.out.frozen 5
          have zz := Zx7.out.lt
          simp at z0 z1 z2 z3 z4 z5
          go_wp2
          have hl1 := Lx7.out.1
          have hl2 := Lx7.out.2
          have Zx7n := Lib.hid (show HasBlk ((((((v7.setCell ⟨x7, 0, none⟩ (.int .i64 f.W)).setCell ⟨x7, 1, none⟩ (.int .i64 f.H)).setCell ⟨x7, 2, none⟩ (.slice q7.ac f.nc q7.kc)).setCell ⟨x7, 3, none⟩ (.slice q7.ad f.nd q7.kd)).setCell ⟨x7, 4, none⟩ (.slice q7.ai f.ni q7.ki)).setCell ⟨x7, 5, none⟩ (.slice q7.a4 f.nt q7.kt)) x7 29 #[.int .i64 f.W, .int .i64 f.H, .slice q7.ac f.nc q7.kc, .slice q7.ad f.nd q7.kd, .slice q7.ai f.ni q7.ki, .slice q7.a4 f.nt q7.kt] by simpa using ((((((((((((Zx7.out).set 0 (.int .i64 f.W))).set 1 (.int .i64 f.H))).set 2 (.slice q7.ac f.nc q7.kc))).set 3 (.slice q7.ad f.nd q7.kd))).set 4 (.slice q7.ai f.ni q7.ki))).set 5 (.slice q7.a4 f.nt q7.kt)))
          have Zx8n := Lib.hid (show HasBlk ((((((v7.setCell ⟨x7, 0, none⟩ (.int .i64 f.W)).setCell ⟨x7, 1, none⟩ (.int .i64 f.H)).setCell ⟨x7, 2, none⟩ (.slice q7.ac f.nc q7.kc)).setCell ⟨x7, 3, none⟩ (.slice q7.ad f.nd q7.kd)).setCell ⟨x7, 4, none⟩ (.slice q7.ai f.ni q7.ki)).setCell ⟨x7, 5, none⟩ (.slice q7.a4 f.nt q7.kt)) x8 51 _ from ((((((Zx8.out.far (p := ⟨x7, 0, none⟩) (by simp; omega) (.int .i64 f.W)).far (p := ⟨x7, 1, none⟩) (by simp; omega) (.int .i64 f.H)).far (p := ⟨x7, 2, none⟩) (by simp; omega) (.slice q7.ac f.nc q7.kc)).far (p := ⟨x7, 3, none⟩) (by simp; omega) (.slice q7.ad f.nd q7.kd)).far (p := ⟨x7, 4, none⟩) (by simp; omega) (.slice q7.ai f.ni q7.ki)).far (p := ⟨x7, 5, none⟩) (by simp; omega) (.slice q7.a4 f.nt q7.kt)))
          have B3n := Lib.hid (show HasBlk ((((((v7.setCell ⟨x7, 0, none⟩ (.int .i64 f.W)).setCell ⟨x7, 1, none⟩ (.int .i64 f.H)).setCell ⟨x7, 2, none⟩ (.slice q7.ac f.nc q7.kc)).setCell ⟨x7, 3, none⟩ (.slice q7.ad f.nd q7.kd)).setCell ⟨x7, 4, none⟩ (.slice q7.ai f.ni q7.ki)).setCell ⟨x7, 5, none⟩ (.slice q7.a4 f.nt q7.kt)) w.heap.size 29 _ from ((((((B3.out.far (p := ⟨x7, 0, none⟩) (by simp; omega) (.int .i64 f.W)).far (p := ⟨x7, 1, none⟩) (by simp; omega) (.int .i64 f.H)).far (p := ⟨x7, 2, none⟩) (by simp; omega) (.slice q7.ac f.nc q7.kc)).far (p := ⟨x7, 3, none⟩) (by simp; omega) (.slice q7.ad f.nd q7.kd)).far (p := ⟨x7, 4, none⟩) (by simp; omega) (.slice q7.ai f.ni q7.ki)).far (p := ⟨x7, 5, none⟩) (by simp; omega) (.slice q7.a4 f.nt q7.kt)))
          have B4n := Lib.hid (show HasBlk ((((((v7.setCell ⟨x7, 0, none⟩ (.int .i64 f.W)).setCell ⟨x7, 1, none⟩ (.int .i64 f.H)).setCell ⟨x7, 2, none⟩ (.slice q7.ac f.nc q7.kc)).setCell ⟨x7, 3, none⟩ (.slice q7.ad f.nd q7.kd)).setCell ⟨x7, 4, none⟩ (.slice q7.ai f.ni q7.ki)).setCell ⟨x7, 5, none⟩ (.slice q7.a4 f.nt q7.kt)) (w.heap.size + 1) 51 _ from ((((((B4.out.far (p := ⟨x7, 0, none⟩) (by simp; omega) (.int .i64 f.W)).far (p := ⟨x7, 1, none⟩) (by simp; omega) (.int .i64 f.H)).far (p := ⟨x7, 2, none⟩) (by simp; omega) (.slice q7.ac f.nc q7.kc)).far (p := ⟨x7, 3, none⟩) (by simp; omega) (.slice q7.ad f.nd q7.kd)).far (p := ⟨x7, 4, none⟩) (by simp; omega) (.slice q7.ai f.ni q7.ki)).far (p := ⟨x7, 5, none⟩) (by simp; omega) (.slice q7.a4 f.nt q7.kt)))
          have B5n := Lib.hid (show HasBlk ((((((v7.setCell ⟨x7, 0, none⟩ (.int .i64 f.W)).setCell ⟨x7, 1, none⟩ (.int .i64 f.H)).setCell ⟨x7, 2, none⟩ (.slice q7.ac f.nc q7.kc)).setCell ⟨x7, 3, none⟩ (.slice q7.ad f.nd q7.kd)).setCell ⟨x7, 4, none⟩ (.slice q7.ai f.ni q7.ki)).setCell ⟨x7, 5, none⟩ (.slice q7.a4 f.nt q7.kt)) (w.heap.size + 1 + 1) 55 _ from ((((((B5.out.far (p := ⟨x7, 0, none⟩) (by simp; omega) (.int .i64 f.W)).far (p := ⟨x7, 1, none⟩) (by simp; omega) (.int .i64 f.H)).far (p := ⟨x7, 2, none⟩) (by simp; omega) (.slice q7.ac f.nc q7.kc)).far (p := ⟨x7, 3, none⟩) (by simp; omega) (.slice q7.ad f.nd q7.kd)).far (p := ⟨x7, 4, none⟩) (by simp; omega) (.slice q7.ai f.ni q7.ki)).far (p := ⟨x7, 5, none⟩) (by simp; omega) (.slice q7.a4 f.nt q7.kt)))
          have HBn := Lib.hid (show Below w.heap.size w ((((((v7.setCell ⟨x7, 0, none⟩ (.int .i64 f.W)).setCell ⟨x7, 1, none⟩ (.int .i64 f.H)).setCell ⟨x7, 2, none⟩ (.slice q7.ac f.nc q7.kc)).setCell ⟨x7, 3, none⟩ (.slice q7.ad f.nd q7.kd)).setCell ⟨x7, 4, none⟩ (.slice q7.ai f.ni q7.ki)).setCell ⟨x7, 5, none⟩ (.slice q7.a4 f.nt q7.kt)) from (Below.setCell (p := ⟨x7, 5, none⟩) (Below.setCell (p := ⟨x7, 4, none⟩) (Below.setCell (p := ⟨x7, 3, none⟩) (Below.setCell (p := ⟨x7, 2, none⟩) (Below.setCell (p := ⟨x7, 1, none⟩) (Below.setCell (p := ⟨x7, 0, none⟩) HB.out (hl1) (.int .i64 f.W)) (hl1) (.int .i64 f.H)) (hl1) (.slice q7.ac f.nc q7.kc)) (hl1) (.slice q7.ad f.nd q7.kd)) (hl1) (.slice q7.ai f.ni q7.ki)) (hl1) (.slice q7.a4 f.nt q7.kt)))
          have O7n := Lib.hid (show FOwn w.heap.size ((((((v7.setCell ⟨x7, 0, none⟩ (.int .i64 f.W)).setCell ⟨x7, 1, none⟩ (.int .i64 f.H)).setCell ⟨x7, 2, none⟩ (.slice q7.ac f.nc q7.kc)).setCell ⟨x7, 3, none⟩ (.slice q7.ad f.nd q7.kd)).setCell ⟨x7, 4, none⟩ (.slice q7.ai f.ni q7.ki)).setCell ⟨x7, 5, none⟩ (.slice q7.a4 f.nt q7.kt)) q7 f from ((((((O7.out.pset (j := 0) Zx7.out (by decide) (by decide) (.int .i64 f.W)).pset (j := 1) (Zx7.out.set 0 (.int .i64 f.W)) (by decide) (by decide) (.int .i64 f.H)).pset (j := 2) ((Zx7.out.set 0 (.int .i64 f.W)).set 1 (.int .i64 f.H)) (by decide) (by decide) (.slice q7.ac f.nc q7.kc)).pset (j := 3) (((Zx7.out.set 0 (.int .i64 f.W)).set 1 (.int .i64 f.H)).set 2 (.slice q7.ac f.nc q7.kc)) (by decide) (by decide) (.slice q7.ad f.nd q7.kd)).pset (j := 4) ((((Zx7.out.set 0 (.int .i64 f.W)).set 1 (.int .i64 f.H)).set 2 (.slice q7.ac f.nc q7.kc)).set 3 (.slice q7.ad f.nd q7.kd)) (by decide) (by decide) (.slice q7.ai f.ni q7.ki)).pset (j := 5) (((((Zx7.out.set 0 (.int .i64 f.W)).set 1 (.int .i64 f.H)).set 2 (.slice q7.ac f.nc q7.kc)).set 3 (.slice q7.ad f.nd q7.kd)).set 4 (.slice q7.ai f.ni q7.ki)) (by decide) (by decide) (.slice q7.a4 f.nt q7.kt)))
          have O8n := Lib.hid (show POwn w.heap.size ((((((v7.setCell ⟨x7, 0, none⟩ (.int .i64 f.W)).setCell ⟨x7, 1, none⟩ (.int .i64 f.H)).setCell ⟨x7, 2, none⟩ (.slice q7.ac f.nc q7.kc)).setCell ⟨x7, 3, none⟩ (.slice q7.ad f.nd q7.kd)).setCell ⟨x7, 4, none⟩ (.slice q7.ai f.ni q7.ki)).setCell ⟨x7, 5, none⟩ (.slice q7.a4 f.nt q7.kt)) q8 d from ((((((O8.out.pset (j := 0) Zx7.out (by decide) (by decide) (.int .i64 f.W)).pset (j := 1) (Zx7.out.set 0 (.int .i64 f.W)) (by decide) (by decide) (.int .i64 f.H)).pset (j := 2) ((Zx7.out.set 0 (.int .i64 f.W)).set 1 (.int .i64 f.H)) (by decide) (by decide) (.slice q7.ac f.nc q7.kc)).pset (j := 3) (((Zx7.out.set 0 (.int .i64 f.W)).set 1 (.int .i64 f.H)).set 2 (.slice q7.ac f.nc q7.kc)) (by decide) (by decide) (.slice q7.ad f.nd q7.kd)).pset (j := 4) ((((Zx7.out.set 0 (.int .i64 f.W)).set 1 (.int .i64 f.H)).set 2 (.slice q7.ac f.nc q7.kc)).set 3 (.slice q7.ad f.nd q7.kd)) (by decide) (by decide) (.slice q7.ai f.ni q7.ki)).pset (j := 5) (((((Zx7.out.set 0 (.int .i64 f.W)).set 1 (.int .i64 f.H)).set 2 (.slice q7.ac f.nc q7.kc)).set 3 (.slice q7.ad f.nd q7.kd)).set 4 (.slice q7.ai f.ni q7.ki)) (by decide) (by decide) (.slice q7.a4 f.nt q7.kt)))
          clear Zx7 Zx8 B3 B4 B5 HB O7 O8 HS z0 zf0 z1 zf1 z2 zf2 z3 zf3 z4 zf4 z5 zf5 zz hl1 hl2
          have Zx7 := Lib.hid Zx7n.out
          have Zx8 := Lib.hid Zx8n.out
          have B3 := Lib.hid B3n.out
          have B4 := Lib.hid B4n.out
          have B5 := Lib.hid B5n.out
          have HB := Lib.hid HBn.out
          have O7 := Lib.hid O7n.out
          have O8 := Lib.hid O8n.out
          clear Zx7n Zx8n B3n B4n B5n HBn O7n O8n
          have HS := Lib.hid (show (fun Wo => HasBlk Wo w.heap.size 29 #[.int .i64 f.W, .int .i64 f.H, .slice p.ac f.nc p.kc, .slice p.ad f.nd p.kd, .slice p.ai f.ni p.ki, .slice p.a4 f.nt p.kt] ∧ HasBlk Wo (w.heap.size + 1) 51 #[.slice q.A d.n q.c]) ((((((v7.setCell ⟨x7, 0, none⟩ (.int .i64 f.W)).setCell ⟨x7, 1, none⟩ (.int .i64 f.H)).setCell ⟨x7, 2, none⟩ (.slice q7.ac f.nc q7.kc)).setCell ⟨x7, 3, none⟩ (.slice q7.ad f.nd q7.kd)).setCell ⟨x7, 4, none⟩ (.slice q7.ai f.ni q7.ki)).setCell ⟨x7, 5, none⟩ (.slice q7.a4 f.nt q7.kt)) from ⟨B3.out, B4.out⟩)
          refine HK _ _ (fun _ => HS.out) ?_
          clear HK
          generalize ((((((v7.setCell ⟨x7, 0, none⟩ (.int .i64 f.W)).setCell ⟨x7, 1, none⟩ (.int .i64 f.H)).setCell ⟨x7, 2, none⟩ (.slice q7.ac f.nc q7.kc)).setCell ⟨x7, 3, none⟩ (.slice q7.ad f.nd q7.kd)).setCell ⟨x7, 4, none⟩ (.slice q7.ai f.ni q7.ki)).setCell ⟨x7, 5, none⟩ (.slice q7.a4 f.nt q7.kt)) = va at *
          refine wpAnyE_step (i := 7) rfl (by kernel_rfl) (fun KQ HK => ?_)
          have z0 := Zx8.out.cell 0
          have zf0 := Zx8.out.frozen 0
          have zz := Zx8.out.lt
          simp at z0
          go_wp2
          have hl1 := Lx8.out.1
          have hl2 := Lx8.out.2
          have Zx8n := Lib.hid (show HasBlk (va.setCell ⟨x8, 0, none⟩ (.slice q8.A d.n q8.c)) x8 51 #[.slice q8.A d.n q8.c] by simpa using ((Zx8.out).set 0 (.slice q8.A d.n q8.c)))
          have Zx7n := Lib.hid (show HasBlk (va.setCell ⟨x8, 0, none⟩ (.slice q8.A d.n q8.c)) x7 29 _ from (Zx7.out.far (p := ⟨x8, 0, none⟩) (by simp; omega) (.slice q8.A d.n q8.c)))
          have B3n := Lib.hid (show HasBlk (va.setCell ⟨x8, 0, none⟩ (.slice q8.A d.n q8.c)) w.heap.size 29 _ from (B3.out.far (p := ⟨x8, 0, none⟩) (by simp; omega) (.slice q8.A d.n q8.c)))
          have B4n := Lib.hid (show HasBlk (va.setCell ⟨x8, 0, none⟩ (.slice q8.A d.n q8.c)) (w.heap.size + 1) 51 _ from (B4.out.far (p := ⟨x8, 0, none⟩) (by simp; omega) (.slice q8.A d.n q8.c)))
          have B5n := Lib.hid (show HasBlk (va.setCell ⟨x8, 0, none⟩ (.slice q8.A d.n q8.c)) (w.heap.size + 1 + 1) 55 _ from (B5.out.far (p := ⟨x8, 0, none⟩) (by simp; omega) (.slice q8.A d.n q8.c)))
          have HBn := Lib.hid (show Below w.heap.size w (va.setCell ⟨x8, 0, none⟩ (.slice q8.A d.n q8.c)) from (Below.setCell (p := ⟨x8, 0, none⟩) HB.out (hl1) (.slice q8.A d.n q8.c)))
          have O7n := Lib.hid (show FOwn w.heap.size (va.setCell ⟨x8, 0, none⟩ (.slice q8.A d.n q8.c)) q7 f from (O7.out.pset (j := 0) Zx8.out (by decide) (by decide) (.slice q8.A d.n q8.c)))
          have O8n := Lib.hid (show POwn w.heap.size (va.setCell ⟨x8, 0, none⟩ (.slice q8.A d.n q8.c)) q8 d from (O8.out.pset (j := 0) Zx8.out (by decide) (by decide) (.slice q8.A d.n q8.c)))
          clear Zx8 Zx7 B3 B4 B5 HB O7 O8 HS z0 zf0 zz hl1 hl2
          have Zx8 := Lib.hid Zx8n.out
          have Zx7 := Lib.hid Zx7n.out
          have B3 := Lib.hid B3n.out
          have B4 := Lib.hid B4n.out
          have B5 := Lib.hid B5n.out
          have HB := Lib.hid HBn.out
          have O7 := Lib.hid O7n.out
          have O8 := Lib.hid O8n.out
          clear Zx8n Zx7n B3n B4n B5n HBn O7n O8n
          have HS := Lib.hid (show (fun Wo => HasBlk Wo w.heap.size 29 #[.int .i64 f.W, .int .i64 f.H, .slice p.ac f.nc p.kc, .slice p.ad f.nd p.kd, .slice p.ai f.ni p.ki, .slice p.a4 f.nt p.kt] ∧ HasBlk Wo (w.heap.size + 1) 51 #[.slice q.A d.n q.c]) (va.setCell ⟨x8, 0, none⟩ (.slice q8.A d.n q8.c)) from ⟨B3.out, B4.out⟩)
          refine HK _ _ (fun _ => HS.out) ?_
          clear HK
          generalize (va.setCell ⟨x8, 0, none⟩ (.slice q8.A d.n q8.c)) = vb at *
          refine wpAnyE_done (by kernel_rfl) ?_
          go_wp2_with fail
          go_meet
          exact ⟨x7, x8, q7, q8, rfl, rfl, Zx7.out, Zx8.out, O7.out.ok, O8.out.ok, B3.out, B4.out, B5.out, HB.out⟩
      · go_wp2
        have hbel := (Below.refl v4.heap.size v4).alloc (Nat.le_refl _) (.cells #[.int .i64 0, .int .i64 0, .slice none 0 0, .slice none 0 0, .slice none 0 0, .slice none 0 0] 29)
        have Zx7 := Lib.hid (hasBlk_new v4 29 #[.int .i64 0, .int .i64 0, .slice none 0 0, .slice none 0 0, .slice none 0 0, .slice none 0 0])
        clear HS
        have Lx7 := Lib.hid (show w.heap.size ≤ v4.heap.size ∧ (w.heap.size + 1 + 1) < v4.heap.size from ⟨HB.out.size, B5.out.lt⟩)
        have hne := Zx8.out.lt
        have B3' := Lib.hid (B3.out.below (hbel))
        have B4' := Lib.hid (B4.out.below (hbel))
        have B5' := Lib.hid (B5.out.below (hbel))
        have OF' := Lib.hid (OF.out.below (hbel))
        have OP' := Lib.hid (OP.out.below (hbel))
        have Zx8' := Lib.hid (Zx8.out.below (hbel))
        have HB' := Lib.hid (HB.out.trans ((hbel).mono HB.out.size))
        clear B3 B4 B5 OF OP Zx8 HB
        have B3 := Lib.hid B3'.out
        have B4 := Lib.hid B4'.out
        have B5 := Lib.hid B5'.out
        have OF := Lib.hid OF'.out
        have OP := Lib.hid OP'.out
        have Zx8 := Lib.hid Zx8'.out
        have HB := Lib.hid HB'.out
        clear B3' B4' B5' OF' OP' Zx8' HB'
        have HS := Lib.hid (show (fun Wo => HasBlk Wo w.heap.size 29 #[.int .i64 f.W, .int .i64 f.H, .slice p.ac f.nc p.kc, .slice p.ad f.nd p.kd, .slice p.ai f.ni p.ki, .slice p.a4 f.nt p.kt] ∧ HasBlk Wo (w.heap.size + 1) 51 #[.slice q.A d.n q.c]) (v4.alloc (.cells #[.int .i64 0, .int .i64 0, .slice none 0 0, .slice none 0 0, .slice none 0 0, .slice none 0 0] 29)) from ⟨B3.out, B4.out⟩)
        clear hbel
        refine HK _ _ (fun _ => HS.out) ?_
        clear HK
        obtain ⟨x7, hx7⟩ : ∃ x7, x7 = v4.heap.size := ⟨_, rfl⟩
        rw [← hx7] at Zx7 Lx7 ⊢
        rw [← hx7] at hne
        clear hx7
        generalize v4.alloc (.cells #[.int .i64 0, .int .i64 0, .slice none 0 0, .slice none 0 0, .slice none 0 0, .slice none 0 0] 29) = v5 at *
        refine wpAnyE_step (i := 1) rfl (by kernel_rfl) (fun KQ HK => ?_)
        have KX := Lib.hid (reftwin_any p f v5 OF.out FT.out)
        go_wp2_with fail
        refine KX.out.mono ?_
        rintro e v6 ⟨⟨q7, rfl, hown⟩, bel⟩
        have O7 := Lib.hid (hown.base HB.out.size)
        clear KX hown HS
        have B3' := Lib.hid (B3.out.below (bel))
        have B4' := Lib.hid (B4.out.below (bel))
        have B5' := Lib.hid (B5.out.below (bel))
        have OF' := Lib.hid (OF.out.below (bel))
        have OP' := Lib.hid (OP.out.below (bel))
        have Zx8' := Lib.hid (Zx8.out.below (bel))
        have Zx7' := Lib.hid (Zx7.out.below (bel))
        have HB' := Lib.hid (HB.out.trans ((bel).mono HB.out.size))
        clear B3 B4 B5 OF OP Zx8 Zx7 HB
        have B3 := Lib.hid B3'.out
        have B4 := Lib.hid B4'.out
        have B5 := Lib.hid B5'.out
        have OF := Lib.hid OF'.out
        have OP := Lib.hid OP'.out
        have Zx8 := Lib.hid Zx8'.out
        have Zx7 := Lib.hid Zx7'.out
        have HB := Lib.hid HB'.out
        clear B3' B4' B5' OF' OP' Zx8' Zx7' HB'
        clear bel
        have HS := Lib.hid (show (fun Wo => HasBlk Wo w.heap.size 29 #[.int .i64 f.W, .int .i64 f.H, .slice p.ac f.nc p.kc, .slice p.ad f.nd p.kd, .slice p.ai f.ni p.ki, .slice p.a4 f.nt p.kt] ∧ HasBlk Wo (w.heap.size + 1) 51 #[.slice q.A d.n q.c]) v6 from ⟨B3.out, B4.out⟩)
        go_wp2
        refine HK _ _ (fun _ => HS.out) ?_
        clear HK
        refine wpAnyE_step (i := 3) rfl (by kernel_rfl) (fun KQ HK => ?_)
        have KX := Lib.hid (ptwin_any d q NP.out v6 OP.out)
        go_wp2_with fail
        refine KX.out.mono ?_
        rintro e v7 ⟨⟨q8, rfl, hown⟩, bel⟩
        have O8 := Lib.hid (hown.base HB.out.size)
        clear KX hown HS
        have B3' := Lib.hid (B3.out.below (bel))
        have B4' := Lib.hid (B4.out.below (bel))
        have B5' := Lib.hid (B5.out.below (bel))
        have OF' := Lib.hid (OF.out.below (bel))
        have OP' := Lib.hid (OP.out.below (bel))
        have Zx8' := Lib.hid (Zx8.out.below (bel))
        have Zx7' := Lib.hid (Zx7.out.below (bel))
        have O7' := Lib.hid (O7.out.below (bel))
        have HB' := Lib.hid (HB.out.trans ((bel).mono HB.out.size))
        clear B3 B4 B5 OF OP Zx8 Zx7 O7 HB
        have B3 := Lib.hid B3'.out
        have B4 := Lib.hid B4'.out
        have B5 := Lib.hid B5'.out
        have OF := Lib.hid OF'.out
        have OP := Lib.hid OP'.out
        have Zx8 := Lib.hid Zx8'.out
        have Zx7 := Lib.hid Zx7'.out
        have O7 := Lib.hid O7'.out
        have HB := Lib.hid HB'.out
        clear B3' B4' B5' OF' OP' Zx8' Zx7' O7' HB'
        clear bel
        have HS := Lib.hid (show (fun Wo => HasBlk Wo w.heap.size 29 #[.int .i64 f.W, .int .i64 f.H, .slice p.ac f.nc p.kc, .slice p.ad f.nd p.kd, .slice p.ai f.ni p.ki, .slice p.a4 f.nt p.kt] ∧ HasBlk Wo (w.heap.size + 1) 51 #[.slice q.A d.n q.c]) v7 from ⟨B3.out, B4.out⟩)
        go_wp2
        refine HK _ _ (fun _ => HS.out) ?_
        clear HK
        refine wpAnyE_step (i := 6) rfl (by kernel_rfl) (fun KQ HK => ?_)
        have z0 := Zx7.out.cell 0
        have zf0 := Zx7.out.frozen 0
        have z1 := Zx7.out.cell 1
        have zf1 := Zx7.out.frozen 1
        have z2 := Zx7.out.cell 2
        have zf2 := Zx7.out.frozen 2
        have z3 := Zx7.out.cell 3
        have zf3 := Zx7.out.frozen 3
        have z4 := Zx7.out.cell 4
        have zf4 := Zx7.out.frozen 4
        have z5 := Zx7.out.cell 5
        have zf5 := Zx7.out.frozen 5
        have zz := Zx7.out.lt
        simp at z0 z1 z2 z3 z4 z5
        go_wp2
        have hl1 := Lx7.out.1
        have hl2 := Lx7.out.2
        have Zx7n := Lib.hid (show HasBlk ((((((v7.setCell ⟨x7, 0, none⟩ (.int .i64 f.W)).setCell ⟨x7, 1, none⟩ (.int .i64 f.H)).setCell ⟨x7, 2, none⟩ (.slice q7.ac f.nc q7.kc)).setCell ⟨x7, 3, none⟩ (.slice q7.ad f.nd q7.kd)).setCell ⟨x7, 4, none⟩ (.slice q7.ai f.ni q7.ki)).setCell ⟨x7, 5, none⟩ (.slice q7.a4 f.nt q7.kt)) x7 29 #[.int .i64 f.W, .int .i64 f.H, .slice q7.ac f.nc q7.kc, .slice q7.ad f.nd q7.kd, .slice q7.ai f.ni q7.ki, .slice q7.a4 f.nt q7.kt] by simpa using ((((((((((((Zx7.out).set 0 (.int .i64 f.W))).set 1 (.int .i64 f.H))).set 2 (.slice q7.ac f.nc q7.kc))).set 3 (.slice q7.ad f.nd q7.kd))).set 4 (.slice q7.ai f.ni q7.ki))).set 5 (.slice q7.a4 f.nt q7.kt)))
        have Zx8n := Lib.hid (show HasBlk ((((((v7.setCell ⟨x7, 0, none⟩ (.int .i64 f.W)).setCell ⟨x7, 1, none⟩ (.int .i64 f.H)).setCell ⟨x7, 2, none⟩ (.slice q7.ac f.nc q7.kc)).setCell ⟨x7, 3, none⟩ (.slice q7.ad f.nd q7.kd)).setCell ⟨x7, 4, none⟩ (.slice q7.ai f.ni q7.ki)).setCell ⟨x7, 5, none⟩ (.slice q7.a4 f.nt q7.kt)) x8 51 _ from ((((((Zx8.out.far (p := ⟨x7, 0, none⟩) (by simp; omega) (.int .i64 f.W)).far (p := ⟨x7, 1, none⟩) (by simp; omega) (.int .i64 f.H)).far (p := ⟨x7, 2, none⟩) (by simp; omega) (.slice q7.ac f.nc q7.kc)).far (p := ⟨x7, 3, none⟩) (by simp; omega) (.slice q7.ad f.nd q7.kd)).far (p := ⟨x7, 4, none⟩) (by simp; omega) (.slice q7.ai f.ni q7.ki)).far (p := ⟨x7, 5, none⟩) (by simp; omega) (.slice q7.a4 f.nt q7.kt)))
        have B3n := Lib.hid (show HasBlk ((((((v7.setCell ⟨x7, 0, none⟩ (.int .i64 f.W)).setCell ⟨x7, 1, none⟩ (.int .i64 f.H)).setCell ⟨x7, 2, none⟩ (.slice q7.ac f.nc q7.kc)).setCell ⟨x7, 3, none⟩ (.slice q7.ad f.nd q7.kd)).setCell ⟨x7, 4, none⟩ (.slice q7.ai f.ni q7.ki)).setCell ⟨x7, 5, none⟩ (.slice q7.a4 f.nt q7.kt)) w.heap.size 29 _ from ((((((B3.out.far (p := ⟨x7, 0, none⟩) (by simp; omega) (.int .i64 f.W)).far (p := ⟨x7, 1, none⟩) (by simp; omega) (.int .i64 f.H)).far (p := ⟨x7, 2, none⟩) (by simp; omega) (.slice q7.ac f.nc q7.kc)).far (p := ⟨x7, 3, none⟩) (by simp; omega) (.slice q7.ad f.nd q7.kd)).far (p := ⟨x7, 4, none⟩) (by simp; omega) (.slice q7.ai f.ni q7.ki)).far (p := ⟨x7, 5, none⟩) (by simp; omega) (.slice q7.a4 f.nt q7.kt)))
        have B4n := Lib.hid (show HasBlk ((((((v7.setCell ⟨x7, 0, none⟩ (.int .i64 f.W)).setCell ⟨x7, 1, none⟩ (.int .i64 f.H)).setCell ⟨x7, 2, none⟩ (.slice q7.ac f.nc q7.kc)).setCell ⟨x7, 3, none⟩ (.slice q7.ad f.nd q7.kd)).setCell ⟨x7, 4, none⟩ (.slice q7.ai f.ni q7.ki)).setCell ⟨x7, 5, none⟩ (.slice q7.a4 f.nt q7.kt)) (w.heap.size + 1) 51 _ from ((((((B4.out.far (p := ⟨x7, 0, none⟩) (by simp; omega) (.int .i64 f.W)).far (p := ⟨x7, 1, none⟩) (by simp; omega) (.int .i64 f.H)).far (p := ⟨x7, 2, none⟩) (by simp; omega) (.slice q7.ac f.nc q7.kc)).far (p := ⟨x7, 3, none⟩) (by simp; omega) (.slice q7.ad f.nd q7.kd)).far (p := ⟨x7, 4, none⟩) (by simp; omega) (.slice q7.ai f.ni q7.ki)).far (p := ⟨x7, 5, none⟩) (by simp; omega) (.slice q7.a4 f.nt q7.kt)))
        have B5n := Lib.hid (show HasBlk ((((((v7.setCell ⟨x7, 0, none⟩ (.int .i64 f.W)).setCell ⟨x7, 1, none⟩ (.int .i64 f.H)).setCell ⟨x7, 2, none⟩ (.slice q7.ac f.nc q7.kc)).setCell ⟨x7, 3, none⟩ (.slice q7.ad f.nd q7.kd)).setCell ⟨x7, 4, none⟩ (.slice q7.ai f.ni q7.ki)).setCell ⟨x7, 5, none⟩ (.slice q7.a4 f.nt q7.kt)) (w.heap.size + 1 + 1) 55 _ from ((((((B5.out.far (p := ⟨x7, 0, none⟩) (by simp; omega) (.int .i64 f.W)).far (p := ⟨x7, 1, none⟩) (by simp; omega) (.int .i64 f.H)).far (p := ⟨x7, 2, none⟩) (by simp; omega) (.slice q7.ac f.nc q7.kc)).far (p := ⟨x7, 3, none⟩) (by simp; omega) (.slice q7.ad f.nd q7.kd)).far (p := ⟨x7, 4, none⟩) (by simp; omega) (.slice q7.ai f.ni q7.ki)).far (p := ⟨x7, 5, none⟩) (by simp; omega) (.slice q7.a4 f.nt q7.kt)))
        have HBn := Lib.hid (show Below w.heap.size w ((((((v7.setCell ⟨x7, 0, none⟩ (.int .i64 f.W)).setCell ⟨x7, 1, none⟩ (.int .i64 f.H)).setCell ⟨x7, 2, none⟩ (.slice q7.ac f.nc q7.kc)).setCell ⟨x7, 3, none⟩ (.slice q7.ad f.nd q7.kd)).setCell ⟨x7, 4, none⟩ (.slice q7.ai f.ni q7.ki)).setCell ⟨x7, 5, none⟩ (.slice q7.a4 f.nt q7.kt)) from (Below.setCell (p := ⟨x7, 5, none⟩) (Below.setCell (p := ⟨x7, 4, none⟩) (Below.setCell (p := ⟨x7, 3, none⟩) (Below.setCell (p := ⟨x7, 2, none⟩) (Below.setCell (p := ⟨x7, 1, none⟩) (Below.setCell (p := ⟨x7, 0, none⟩) HB.out (hl1) (.int .i64 f.W)) (hl1) (.int .i64 f.H)) (hl1) (.slice q7.ac f.nc q7.kc)) (hl1) (.slice q7.ad f.nd q7.kd)) (hl1) (.slice q7.ai f.ni q7.ki)) (hl1) (.slice q7.a4 f.nt q7.kt)))
        have O7n := Lib.hid (show FOwn w.heap.size ((((((v7.setCell ⟨x7, 0, none⟩ (.int .i64 f.W)).setCell ⟨x7, 1, none⟩ (.int .i64 f.H)).setCell ⟨x7, 2, none⟩ (.slice q7.ac f.nc q7.kc)).setCell ⟨x7, 3, none⟩ (.slice q7.ad f.nd q7.kd)).setCell ⟨x7, 4, none⟩ (.slice q7.ai f.ni q7.ki)).setCell ⟨x7, 5, none⟩ (.slice q7.a4 f.nt q7.kt)) q7 f from ((((((O7.out.pset (j := 0) Zx7.out (by decide) (by decide) (.int .i64 f.W)).pset (j := 1) (Zx7.out.set 0 (.int .i64 f.W)) (by decide) (by decide) (.int .i64 f.H)).pset (j := 2) ((Zx7.out.set 0 (.int .i64 f.W)).set 1 (.int .i64 f.H)) (by decide) (by decide) (.slice q7.ac f.nc q7.kc)).pset (j := 3) (((Zx7.out.set 0 (.int .i64 f.W)).set 1 (.int .i64 f.H)).set 2 (.slice q7.ac f.nc q7.kc)) (by decide) (by decide) (.slice q7.ad f.nd q7.kd)).pset (j := 4) ((((Zx7.out.set 0 (.int .i64 f.W)).set 1 (.int .i64 f.H)).set 2 (.slice q7.ac f.nc q7.kc)).set 3 (.slice q7.ad f.nd q7.kd)) (by decide) (by decide) (.slice q7.ai f.ni q7.ki)).pset (j := 5) (((((Zx7.out.set 0 (.int .i64 f.W)).set 1 (.int .i64 f.H)).set 2 (.slice q7.ac f.nc q7.kc)).set 3 (.slice q7.ad f.nd q7.kd)).set 4 (.slice q7.ai f.ni q7.ki)) (by decide) (by decide) (.slice q7.a4 f.nt q7.kt)))
        have O8n := Lib.hid (show POwn w.heap.size ((((((v7.setCell ⟨x7, 0, none⟩ (.int .i64 f.W)).setCell ⟨x7, 1, none⟩ (.int .i64 f.H)).setCell ⟨x7, 2, none⟩ (.slice q7.ac f.nc q7.kc)).setCell ⟨x7, 3, none⟩ (.slice q7.ad f.nd q7.kd)).setCell ⟨x7, 4, none⟩ (.slice q7.ai f.ni q7.ki)).setCell ⟨x7, 5, none⟩ (.slice q7.a4 f.nt q7.kt)) q8 d from ((((((O8.out.pset (j := 0) Zx7.out (by decide) (by decide) (.int .i64 f.W)).pset (j := 1) (Zx7.out.set 0 (.int .i64 f.W)) (by decide) (by decide) (.int .i64 f.H)).pset (j := 2) ((Zx7.out.set 0 (.int .i64 f.W)).set 1 (.int .i64 f.H)) (by decide) (by decide) (.slice q7.ac f.nc q7.kc)).pset (j := 3) (((Zx7.out.set 0 (.int .i64 f.W)).set 1 (.int .i64 f.H)).set 2 (.slice q7.ac f.nc q7.kc)) (by decide) (by decide) (.slice q7.ad f.nd q7.kd)).pset (j := 4) ((((Zx7.out.set 0 (.int .i64 f.W)).set 1 (.int .i64 f.H)).set 2 (.slice q7.ac f.nc q7.kc)).set 3 (.slice q7.ad f.nd q7.kd)) (by decide) (by decide) (.slice q7.ai f.ni q7.ki)).pset (j := 5) (((((Zx7.out.set 0 (.int .i64 f.W)).set 1 (.int .i64 f.H)).set 2 (.slice q7.ac f.nc q7.kc)).set 3 (.slice q7.ad f.nd q7.kd)).set 4 (.slice q7.ai f.ni q7.ki)) (by decide) (by decide) (.slice q7.a4 f.nt q7.kt)))
        clear Zx7 Zx8 B3 B4 B5 HB O7 O8 HS z0 zf0 z1 zf1 z2 zf2 z3 zf3 z4 zf4 z5 zf5 zz hl1 hl2
        have Zx7 := Lib.hid Zx7n.out
        have Zx8 := Lib.hid Zx8n.out
        have B3 := Lib.hid B3n.out
        have B4 := Lib.hid B4n.out
        have B5 := Lib.hid B5n.out
        have HB := Lib.hid HBn.out
        have O7 := Lib.hid O7n.out
        have O8 := Lib.hid O8n.out
        clear Zx7n Zx8n B3n B4n B5n HBn O7n O8n
        have HS := Lib.hid (show (fun Wo => HasBlk Wo w.heap.size 29 #[.int .i64 f.W, .int .i64 f.H, .slice p.ac f.nc p.kc, .slice p.ad f.nd p.kd, .slice p.ai f.ni p.ki, .slice p.a4 f.nt p.kt] ∧ HasBlk Wo (w.heap.size + 1) 51 #[.slice q.A d.n q.c]) ((((((v7.setCell ⟨x7, 0, none⟩ (.int .i64 f.W)).setCell ⟨x7, 1, none⟩ (.int .i64 f.H)).setCell ⟨x7, 2, none⟩ (.slice q7.ac f.nc q7.kc)).setCell ⟨x7, 3, none⟩ (.slice q7.ad f.nd q7.kd)).setCell ⟨x7, 4, none⟩ (.slice q7.ai f.ni q7.ki)).setCell ⟨x7, 5, none⟩ (.slice q7.a4 f.nt q7.kt)) from ⟨B3.out, B4.out⟩)
        refine HK _ _ (fun _ => HS.out) ?_
        clear HK
        generalize ((((((v7.setCell ⟨x7, 0, none⟩ (.int .i64 f.W)).setCell ⟨x7, 1, none⟩ (.int .i64 f.H)).setCell ⟨x7, 2, none⟩ (.slice q7.ac f.nc q7.kc)).setCell ⟨x7, 3, none⟩ (.slice q7.ad f.nd q7.kd)).setCell ⟨x7, 4, none⟩ (.slice q7.ai f.ni q7.ki)).setCell ⟨x7, 5, none⟩ (.slice q7.a4 f.nt q7.kt)) = va at *
        refine wpAnyE_step (i := 7) rfl (by kernel_rfl) (fun KQ HK => ?_)
        have z0 := Zx8.out.cell 0
        have zf0 := Zx8.out.frozen 0
        have zz := Zx8.out.lt
        simp at z0
        go_wp2
        have hl1 := Lx8.out.1
        have hl2 := Lx8.out.2
        have Zx8n := Lib.hid (show HasBlk (va.setCell ⟨x8, 0, none⟩ (.slice q8.A d.n q8.c)) x8 51 #[.slice q8.A d.n q8.c] by simpa using ((Zx8.out).set 0 (.slice q8.A d.n q8.c)))
        have Zx7n := Lib.hid (show HasBlk (va.setCell ⟨x8, 0, none⟩ (.slice q8.A d.n q8.c)) x7 29 _ from (Zx7.out.far (p := ⟨x8, 0, none⟩) (by simp; omega) (.slice q8.A d.n q8.c)))
        have B3n := Lib.hid (show HasBlk (va.setCell ⟨x8, 0, none⟩ (.slice q8.A d.n q8.c)) w.heap.size 29 _ from (B3.out.far (p := ⟨x8, 0, none⟩) (by simp; omega) (.slice q8.A d.n q8.c)))
        have B4n := Lib.hid (show HasBlk (va.setCell ⟨x8, 0, none⟩ (.slice q8.A d.n q8.c)) (w.heap.size + 1) 51 _ from (B4.out.far (p := ⟨x8, 0, none⟩) (by simp; omega) (.slice q8.A d.n q8.c)))
        have B5n := Lib.hid (show HasBlk (va.setCell ⟨x8, 0, none⟩ (.slice q8.A d.n q8.c)) (w.heap.size + 1 + 1) 55 _ from (B5.out.far (p := ⟨x8, 0, none⟩) (by simp; omega) (.slice q8.A d.n q8.c)))
        have HBn := Lib.hid (show Below w.heap.size w (va.setCell ⟨x8, 0, none⟩ (.slice q8.A d.n q8.c)) from (Below.setCell (p := ⟨x8, 0, none⟩) HB.out (hl1) (.slice q8.A d.n q8.c)))
        have O7n := Lib.hid (show FOwn w.heap.size (va.setCell ⟨x8, 0, none⟩ (.slice q8.A d.n q8.c)) q7 f from (O7.out.pset (j := 0) Zx8.out (by decide) (by decide) (.slice q8.A d.n q8.c)))
        have O8n := Lib.hid (show POwn w.heap.size (va.setCell ⟨x8, 0, none⟩ (.slice q8.A d.n q8.c)) q8 d from (O8.out.pset (j := 0) Zx8.out (by decide) (by decide) (.slice q8.A d.n q8.c)))
        clear Zx8 Zx7 B3 B4 B5 HB O7 O8 HS z0 zf0 zz hl1 hl2
        have Zx8 := Lib.hid Zx8n.out
        have Zx7 := Lib.hid Zx7n.out
        have B3 := Lib.hid B3n.out
        have B4 := Lib.hid B4n.out
        have B5 := Lib.hid B5n.out
        have HB := Lib.hid HBn.out
        have O7 := Lib.hid O7n.out
        have O8 := Lib.hid O8n.out
        clear Zx8n Zx7n B3n B4n B5n HBn O7n O8n
        have HS := Lib.hid (show (fun Wo => HasBlk Wo w.heap.size 29 #[.int .i64 f.W, .int .i64 f.H, .slice p.ac f.nc p.kc, .slice p.ad f.nd p.kd, .slice p.ai f.ni p.ki, .slice p.a4 f.nt p.kt] ∧ HasBlk Wo (w.heap.size + 1) 51 #[.slice q.A d.n q.c]) (va.setCell ⟨x8, 0, none⟩ (.slice q8.A d.n q8.c)) from ⟨B3.out, B4.out⟩)
        refine HK _ _ (fun _ => HS.out) ?_
        clear HK
        generalize (va.setCell ⟨x8, 0, none⟩ (.slice q8.A d.n q8.c)) = vb at *
        refine wpAnyE_done (by kernel_rfl) ?_
        go_wp2_with fail
        go_meet
        exact ⟨x7, x8, q7, q8, rfl, rfl, Zx7.out, Zx8.out, O7.out.ok, O8.out.ok, B3.out, B4.out, B5.out, HB.out⟩
  case rest =>
    obtain ⟨x7, x8, q7, q8, rfl, rfl, h7, h8, h9, h10, h11, h12, h13, h14⟩ := hcut
    have B7 := Lib.hid h7
    have B8 := Lib.hid h8
    have O7 := Lib.hid h9
    have O8 := Lib.hid h10
    have B3' := Lib.hid h11
    have B4' := Lib.hid h12
    have B5' := Lib.hid h13
    clear B3 B4 B5 HB
    have B3 := Lib.hid B3'.out
    have B4 := Lib.hid B4'.out
    have B5 := Lib.hid B5'.out
    have HB := Lib.hid h14
    have OFn := Lib.hid (HFw.out.below HB.out)
    have OPn := Lib.hid (HPw.out.below HB.out)
    clear OF OP h7 h8 h9 h10 h11 h12 h13 h14 B3' B4' B5'
    have OF := Lib.hid OFn.out
    have OP := Lib.hid OPn.out
    clear OFn OPn
    have H3 := Lib.hid B3.out
    have H4 := Lib.hid B4.out
    have H7 := Lib.hid B7.out
    have H8 := Lib.hid B8.out
    have HFc := Lib.hid OF.out
    have HO7 := Lib.hid O7.out
    have HPc := Lib.hid OP.out
    have HO8 := Lib.hid O8.out
    have HBc := Lib.hid HB.out
    have b7_0 := B7.out.cell 0
    have b7_1 := B7.out.cell 1
    have b7_2 := B7.out.cell 2
    have b7_3 := B7.out.cell 3
    have b7_4 := B7.out.cell 4
    have b7_5 := B7.out.cell 5
    have b7_z := B7.out.lt
    simp at b7_0 b7_1 b7_2 b7_3 b7_4 b7_5
    have KX := Lib.hid (pbuild_any q7 f wc O7.out)
    go_wp2_with fail
    refine KX.out.mono ?_
    rintro e w4 ⟨hbr, bel⟩
    obtain ⟨p9, d9, c1, rfl, hown, hv⟩ := hbr.v
    clear KX hbr
    clear b7_0 b7_1 b7_2 b7_3 b7_4 b7_5 b7_z
    have B7s := B7.out.lt
    have B8s := B8.out.lt
    have B5s := B5.out.lt
    have BD := Lib.hid (Below.refl wc.heap.size wc)
    have O9 := Lib.hid hown
    have V9 := Lib.hid hv
    have BD' := Lib.hid bel
    clear BD hown hv
    have BD := Lib.hid BD'.out
    clear BD'
    have B3' := Lib.hid (B3.out.below (bel))
    have B4' := Lib.hid (B4.out.below (bel))
    have B5' := Lib.hid (B5.out.below (bel))
    have B7' := Lib.hid (B7.out.below (bel))
    have B8' := Lib.hid (B8.out.below (bel))
    have O7' := Lib.hid (O7.out.below (bel))
    have O8' := Lib.hid (O8.out.below (bel))
    have OF' := Lib.hid (OF.out.below (bel))
    have OP' := Lib.hid (OP.out.below (bel))
    have HB' := Lib.hid (HB.out.trans ((bel).mono HB.out.size))
    clear B3 B4 B5 B7 B8 O7 O8 OF OP HB
    have B3 := Lib.hid B3'.out
    have B4 := Lib.hid B4'.out
    have B5 := Lib.hid B5'.out
    have B7 := Lib.hid B7'.out
    have B8 := Lib.hid B8'.out
    have O7 := Lib.hid O7'.out
    have O8 := Lib.hid O8'.out
    have OF := Lib.hid OF'.out
    have OP := Lib.hid OP'.out
    have HB := Lib.hid HB'.out
    clear B3' B4' B5' B7' B8' O7' O8' OF' OP' HB'
    clear bel
    have b3_0 := B3.out.cell 0
    have b3_1 := B3.out.cell 1
    have b3_2 := B3.out.cell 2
    have b3_3 := B3.out.cell 3
    have b3_4 := B3.out.cell 4
    have b3_5 := B3.out.cell 5
    have b3_z := B3.out.lt
    simp at b3_0 b3_1 b3_2 b3_3 b3_4 b3_5
    have KX := Lib.hid (refbuildp_any p f (w4.alloc (.cells #[.slice p9.A d9.n p9.c] 51)) (OF.out.below ((Below.refl w4.heap.size w4).alloc (Nat.le_refl _) (.cells #[.slice p9.A d9.n p9.c] 51))))
    go_wp2_with fail
    refine KX.out.mono ?_
    rintro e w5 ⟨hbr, bel⟩
    obtain ⟨p11, d11, c2, rfl, hown, hv⟩ := hbr.v
    obtain ⟨rfl, rfl⟩ := V9.out.fn hv
    clear KX hbr hv
    clear b3_0 b3_1 b3_2 b3_3 b3_4 b3_5 b3_z
    have bA := ((Below.refl w4.heap.size w4).alloc (Nat.le_refl _) (.cells #[.slice p9.A d9.n p9.c] 51)).trans (bel.mono (by simp))
    have B9 := Lib.hid ((hasBlk_new w4 51 #[.slice p9.A d9.n p9.c]).below bel)
    have O11 := Lib.hid hown.ok
    clear hown
    obtain ⟨x9, hx9⟩ : ∃ x9, x9 = w4.heap.size := ⟨_, rfl⟩
    rw [← hx9] at B9 ⊢
    have h9B : wc.heap.size ≤ x9 := by rw [hx9]; exact BD.out.size
    clear hx9 bel
    have BD' := Lib.hid (BD.out.trans ((bA).mono BD.out.size))
    clear BD
    have BD := Lib.hid BD'.out
    clear BD'
    have B3' := Lib.hid (B3.out.below (bA))
    have B4' := Lib.hid (B4.out.below (bA))
    have B5' := Lib.hid (B5.out.below (bA))
    have B7' := Lib.hid (B7.out.below (bA))
    have B8' := Lib.hid (B8.out.below (bA))
    have O7' := Lib.hid (O7.out.below (bA))
    have O8' := Lib.hid (O8.out.below (bA))
    have OF' := Lib.hid (OF.out.below (bA))
    have OP' := Lib.hid (OP.out.below (bA))
    have O9' := Lib.hid (O9.out.below (bA))
    have HB' := Lib.hid (HB.out.trans ((bA).mono HB.out.size))
    clear B3 B4 B5 B7 B8 O7 O8 OF OP O9 HB
    have B3 := Lib.hid B3'.out
    have B4 := Lib.hid B4'.out
    have B5 := Lib.hid B5'.out
    have B7 := Lib.hid B7'.out
    have B8 := Lib.hid B8'.out
    have O7 := Lib.hid O7'.out
    have O8 := Lib.hid O8'.out
    have OF := Lib.hid OF'.out
    have OP := Lib.hid OP'.out
    have O9 := Lib.hid O9'.out
    have HB := Lib.hid HB'.out
    clear B3' B4' B5' B7' B8' O7' O8' OF' OP' O9' HB'
    clear bA
    have b8_0 := B8.out.cell 0
    have b8_z := B8.out.lt
    simp at b8_0
    have b5_0 := B5.out.cell 0
    have b5_1 := B5.out.cell 1
    have b5_2 := B5.out.cell 2
    have b5_3 := B5.out.cell 3
    have b5_4 := B5.out.cell 4
    have b5_z := B5.out.lt
    simp at b5_0 b5_1 b5_2 b5_3 b5_4
    have KX := Lib.hid (plow_any d q8 r Sm.out (w5.alloc (.cells #[.slice p11.A d9.n p11.c] 51)) (O8.out.below ((Below.refl w5.heap.size w5).alloc (Nat.le_refl _) (.cells #[.slice p11.A d9.n p11.c] 51))))
    go_wp2_with fail
    refine KX.out.mono ?_
    rintro e w6 ⟨⟨n1, e2, rfl, hl⟩, bel⟩
    have LR := Lib.hid hl
    clear KX hl
    clear b8_0 b8_z
    clear b5_0 b5_1 b5_2 b5_3 b5_4 b5_z
    have bA := ((Below.refl w5.heap.size w5).alloc (Nat.le_refl _) (.cells #[.slice p11.A d9.n p11.c] 51)).trans (bel.mono (by simp))
    have B11 := Lib.hid ((hasBlk_new w5 51 #[.slice p11.A d9.n p11.c]).below bel)
    obtain ⟨x11, hx11⟩ : ∃ x11, x11 = w5.heap.size := ⟨_, rfl⟩
    rw [← hx11] at B11 ⊢
    clear hx11 bel
    have BD' := Lib.hid (BD.out.trans ((bA).mono BD.out.size))
    clear BD
    have BD := Lib.hid BD'.out
    clear BD'
    have B3' := Lib.hid (B3.out.below (bA))
    have B4' := Lib.hid (B4.out.below (bA))
    have B5' := Lib.hid (B5.out.below (bA))
    have B7' := Lib.hid (B7.out.below (bA))
    have B8' := Lib.hid (B8.out.below (bA))
    have O7' := Lib.hid (O7.out.below (bA))
    have O8' := Lib.hid (O8.out.below (bA))
    have OF' := Lib.hid (OF.out.below (bA))
    have OP' := Lib.hid (OP.out.below (bA))
    have O9' := Lib.hid (O9.out.below (bA))
    have B9' := Lib.hid (B9.out.below (bA))
    have O11' := Lib.hid (O11.out.below (bA))
    have HB' := Lib.hid (HB.out.trans ((bA).mono HB.out.size))
    clear B3 B4 B5 B7 B8 O7 O8 OF OP O9 B9 O11 HB
    have B3 := Lib.hid B3'.out
    have B4 := Lib.hid B4'.out
    have B5 := Lib.hid B5'.out
    have B7 := Lib.hid B7'.out
    have B8 := Lib.hid B8'.out
    have O7 := Lib.hid O7'.out
    have O8 := Lib.hid O8'.out
    have OF := Lib.hid OF'.out
    have OP := Lib.hid OP'.out
    have O9 := Lib.hid O9'.out
    have B9 := Lib.hid B9'.out
    have O11 := Lib.hid O11'.out
    have HB := Lib.hid HB'.out
    clear B3' B4' B5' B7' B8' O7' O8' OF' OP' O9' B9' O11' HB'
    clear bA
    have b4_0 := B4.out.cell 0
    have b4_z := B4.out.lt
    simp at b4_0
    have b5_0 := B5.out.cell 0
    have b5_1 := B5.out.cell 1
    have b5_2 := B5.out.cell 2
    have b5_3 := B5.out.cell 3
    have b5_4 := B5.out.cell 4
    have b5_z := B5.out.lt
    simp at b5_0 b5_1 b5_2 b5_3 b5_4
    have KX := Lib.hid (reflowp_any d q r Sm.out w6 OP.out)
    go_wp2_with fail
    refine KX.out.mono ?_
    rintro e w7 ⟨⟨m1, e9, rfl, hl⟩, bel⟩
    obtain ⟨rfl, rfl⟩ := LR.out.fn hl
    clear KX hl
    clear b4_0 b4_z
    clear b5_0 b5_1 b5_2 b5_3 b5_4 b5_z
    have BD' := Lib.hid (BD.out.trans ((bel).mono BD.out.size))
    clear BD
    have BD := Lib.hid BD'.out
    clear BD'
    have B3' := Lib.hid (B3.out.below (bel))
    have B4' := Lib.hid (B4.out.below (bel))
    have B5' := Lib.hid (B5.out.below (bel))
    have B7' := Lib.hid (B7.out.below (bel))
    have B8' := Lib.hid (B8.out.below (bel))
    have O7' := Lib.hid (O7.out.below (bel))
    have O8' := Lib.hid (O8.out.below (bel))
    have OF' := Lib.hid (OF.out.below (bel))
    have OP' := Lib.hid (OP.out.below (bel))
    have O9' := Lib.hid (O9.out.below (bel))
    have B9' := Lib.hid (B9.out.below (bel))
    have O11' := Lib.hid (O11.out.below (bel))
    have B11' := Lib.hid (B11.out.below (bel))
    have HB' := Lib.hid (HB.out.trans ((bel).mono HB.out.size))
    clear B3 B4 B5 B7 B8 O7 O8 OF OP O9 B9 O11 B11 HB
    have B3 := Lib.hid B3'.out
    have B4 := Lib.hid B4'.out
    have B5 := Lib.hid B5'.out
    have B7 := Lib.hid B7'.out
    have B8 := Lib.hid B8'.out
    have O7 := Lib.hid O7'.out
    have O8 := Lib.hid O8'.out
    have OF := Lib.hid OF'.out
    have OP := Lib.hid OP'.out
    have O9 := Lib.hid O9'.out
    have B9 := Lib.hid B9'.out
    have O11 := Lib.hid O11'.out
    have B11 := Lib.hid B11'.out
    have HB := Lib.hid HB'.out
    clear B3' B4' B5' B7' B8' O7' O8' OF' OP' O9' B9' O11' B11' HB'
    clear bel
    have b8_0 := B8.out.cell 0
    have b8_z := B8.out.lt
    simp at b8_0
    have b5_0 := B5.out.cell 0
    have b5_1 := B5.out.cell 1
    have b5_2 := B5.out.cell 2
    have b5_3 := B5.out.cell 3
    have b5_4 := B5.out.cell 4
    have b5_z := B5.out.lt
    simp at b5_0 b5_1 b5_2 b5_3 b5_4
    have KX := Lib.hid (phid_any d q8 r D Sm.out w7 O8.out)
    go_wp2_with fail
    refine KX.out.mono ?_
    rintro e w8 ⟨⟨b1, e3, rfl, hl⟩, bel⟩
    have HR := Lib.hid hl
    clear KX hl
    clear b8_0 b8_z
    clear b5_0 b5_1 b5_2 b5_3 b5_4 b5_z
    have BD' := Lib.hid (BD.out.trans ((bel).mono BD.out.size))
    clear BD
    have BD := Lib.hid BD'.out
    clear BD'
    have B3' := Lib.hid (B3.out.below (bel))
    have B4' := Lib.hid (B4.out.below (bel))
    have B5' := Lib.hid (B5.out.below (bel))
    have B7' := Lib.hid (B7.out.below (bel))
    have B8' := Lib.hid (B8.out.below (bel))
    have O7' := Lib.hid (O7.out.below (bel))
    have O8' := Lib.hid (O8.out.below (bel))
    have OF' := Lib.hid (OF.out.below (bel))
    have OP' := Lib.hid (OP.out.below (bel))
    have O9' := Lib.hid (O9.out.below (bel))
    have B9' := Lib.hid (B9.out.below (bel))
    have O11' := Lib.hid (O11.out.below (bel))
    have B11' := Lib.hid (B11.out.below (bel))
    have HB' := Lib.hid (HB.out.trans ((bel).mono HB.out.size))
    clear B3 B4 B5 B7 B8 O7 O8 OF OP O9 B9 O11 B11 HB
    have B3 := Lib.hid B3'.out
    have B4 := Lib.hid B4'.out
    have B5 := Lib.hid B5'.out
    have B7 := Lib.hid B7'.out
    have B8 := Lib.hid B8'.out
    have O7 := Lib.hid O7'.out
    have O8 := Lib.hid O8'.out
    have OF := Lib.hid OF'.out
    have OP := Lib.hid OP'.out
    have O9 := Lib.hid O9'.out
    have B9 := Lib.hid B9'.out
    have O11 := Lib.hid O11'.out
    have B11 := Lib.hid B11'.out
    have HB := Lib.hid HB'.out
    clear B3' B4' B5' B7' B8' O7' O8' OF' OP' O9' B9' O11' B11' HB'
    clear bel
    have b4_0 := B4.out.cell 0
    have b4_z := B4.out.lt
    simp at b4_0
    have b5_0 := B5.out.cell 0
    have b5_1 := B5.out.cell 1
    have b5_2 := B5.out.cell 2
    have b5_3 := B5.out.cell 3
    have b5_4 := B5.out.cell 4
    have b5_z := B5.out.lt
    simp at b5_0 b5_1 b5_2 b5_3 b5_4
    have KX := Lib.hid (refhidp_any d q r D Sm.out w8 OP.out)
    go_wp2_with fail
    refine KX.out.mono ?_
    rintro e w9 ⟨⟨m1, e9, rfl, hl⟩, bel⟩
    obtain ⟨rfl, rfl⟩ := HR.out.fn hl
    clear KX hl
    clear b4_0 b4_z
    clear b5_0 b5_1 b5_2 b5_3 b5_4 b5_z
    have BD' := Lib.hid (BD.out.trans ((bel).mono BD.out.size))
    clear BD
    have BD := Lib.hid BD'.out
    clear BD'
    have B3' := Lib.hid (B3.out.below (bel))
    have B4' := Lib.hid (B4.out.below (bel))
    have B5' := Lib.hid (B5.out.below (bel))
    have B7' := Lib.hid (B7.out.below (bel))
    have B8' := Lib.hid (B8.out.below (bel))
    have O7' := Lib.hid (O7.out.below (bel))
    have O8' := Lib.hid (O8.out.below (bel))
    have OF' := Lib.hid (OF.out.below (bel))
    have OP' := Lib.hid (OP.out.below (bel))
    have O9' := Lib.hid (O9.out.below (bel))
    have B9' := Lib.hid (B9.out.below (bel))
    have O11' := Lib.hid (O11.out.below (bel))
    have B11' := Lib.hid (B11.out.below (bel))
    have HB' := Lib.hid (HB.out.trans ((bel).mono HB.out.size))
    clear B3 B4 B5 B7 B8 O7 O8 OF OP O9 B9 O11 B11 HB
    have B3 := Lib.hid B3'.out
    have B4 := Lib.hid B4'.out
    have B5 := Lib.hid B5'.out
    have B7 := Lib.hid B7'.out
    have B8 := Lib.hid B8'.out
    have O7 := Lib.hid O7'.out
    have O8 := Lib.hid O8'.out
    have OF := Lib.hid OF'.out
    have OP := Lib.hid OP'.out
    have O9 := Lib.hid O9'.out
    have B9 := Lib.hid B9'.out
    have O11 := Lib.hid O11'.out
    have B11 := Lib.hid B11'.out
    have HB := Lib.hid HB'.out
    clear B3' B4' B5' B7' B8' O7' O8' OF' OP' O9' B9' O11' B11' HB'
    clear bel
    go_upto_region 10 with fail
    have bd := (Below.refl w9.heap.size w9).drew
    have BD' := Lib.hid (BD.out.trans ((bd).mono BD.out.size))
    clear BD
    have BD := Lib.hid BD'.out
    clear BD'
    have B3' := Lib.hid (B3.out.below (bd))
    have B4' := Lib.hid (B4.out.below (bd))
    have B5' := Lib.hid (B5.out.below (bd))
    have B7' := Lib.hid (B7.out.below (bd))
    have B8' := Lib.hid (B8.out.below (bd))
    have O7' := Lib.hid (O7.out.below (bd))
    have O8' := Lib.hid (O8.out.below (bd))
    have OF' := Lib.hid (OF.out.below (bd))
    have OP' := Lib.hid (OP.out.below (bd))
    have O9' := Lib.hid (O9.out.below (bd))
    have B9' := Lib.hid (B9.out.below (bd))
    have O11' := Lib.hid (O11.out.below (bd))
    have B11' := Lib.hid (B11.out.below (bd))
    have HB' := Lib.hid (HB.out.trans ((bd).mono HB.out.size))
    clear B3 B4 B5 B7 B8 O7 O8 OF OP O9 B9 O11 B11 HB
    have B3 := Lib.hid B3'.out
    have B4 := Lib.hid B4'.out
    have B5 := Lib.hid B5'.out
    have B7 := Lib.hid B7'.out
    have B8 := Lib.hid B8'.out
    have O7 := Lib.hid O7'.out
    have O8 := Lib.hid O8'.out
    have OF := Lib.hid OF'.out
    have OP := Lib.hid OP'.out
    have O9 := Lib.hid O9'.out
    have B9 := Lib.hid B9'.out
    have O11 := Lib.hid O11'.out
    have B11 := Lib.hid B11'.out
    have HB := Lib.hid HB'.out
    clear B3' B4' B5' B7' B8' O7' O8' OF' OP' O9' B9' O11' B11' HB'
    clear bd
    have HS := Lib.hid (show (fun Wo => (HasBlk Wo x9 51 #[.slice p9.A d9.n p9.c] ∧ HasBlk Wo x11 51 #[.slice p11.A d9.n p11.c]) ∧ (HasBlk Wo x8 51 #[.slice q8.A d.n q8.c] ∧ HasBlk Wo (w.heap.size + 1) 51 #[.slice q.A d.n q.c])) w9.drew from ⟨⟨B9.out, B11.out⟩, B8.out, B4.out⟩)
    refine wp_region_E (fun Wo => (HasBlk Wo x9 51 #[.slice p9.A d9.n p9.c] ∧ HasBlk Wo x11 51 #[.slice p11.A d9.n p11.c]) ∧ (HasBlk Wo x8 51 #[.slice q8.A d.n q8.c] ∧ HasBlk Wo (w.heap.size + 1) 51 #[.slice q.A d.n q.c])) 99 (by kernel_rfl) ?_
    generalize gwd : w9.drew = u0 at *
    clear gwd
    have hss := fun (x : Int) => (show (x != x) = false by simp)
    have hsb : (b1 != b1) = false := by simp
    refine wpAnyE_takeA (i := 0) (v := .agg #[.slice p9.A d9.n p9.c]) rfl (by kernel_rfl) (fun _ _ _ h => h) (.inl ⟨by first | kernel_rfl | rfl, fun W hW => ?_⟩) HS.out ?_
    · have q0 := hW.1.1.cell 0
      have q1 := hW.1.2.cell 0
      have q2 := hW.2.1.cell 0
      have q3 := hW.2.2.cell 0
      have z0 := hW.1.1.lt
      have z1 := hW.1.2.lt
      have z2 := hW.2.1.lt
      have z3 := hW.2.2.lt
      simp at q0 q1 q2 q3
      go_simp
    simp only [Act.put, List.setIfInBounds_toArray]
    refine wpAnyE_takeA (i := 1) (v := .agg #[.slice p11.A d9.n p11.c]) rfl (by kernel_rfl) (fun _ _ _ h => h) (.inl ⟨by first | kernel_rfl | rfl, fun W hW => ?_⟩) HS.out ?_
    · have q0 := hW.1.1.cell 0
      have q1 := hW.1.2.cell 0
      have q2 := hW.2.1.cell 0
      have q3 := hW.2.2.cell 0
      have z0 := hW.1.1.lt
      have z1 := hW.1.2.lt
      have z2 := hW.2.1.lt
      have z3 := hW.2.2.lt
      simp at q0 q1 q2 q3
      go_simp
    simp only [Act.put]
    refine wpAnyE_step (i := 2) rfl (by kernel_rfl) (fun KQ HK => ?_)
    have KX := Lib.hid (refsamep_any d9 d9 p9 p11 u0 O9.out.ok O11.out V9.out.Sm)
    go_wp2_with fail
    refine KX.out.mono ?_
    rintro e u1 ⟨⟨bb, rfl, hbb⟩, bel⟩
    obtain rfl : bb = true := hbb.2 (SamePD.refl _)
    clear KX HS hbb
    have BD' := Lib.hid (BD.out.trans ((bel).mono BD.out.size))
    clear BD
    have BD := Lib.hid BD'.out
    clear BD'
    have B3' := Lib.hid (B3.out.below (bel))
    have B4' := Lib.hid (B4.out.below (bel))
    have B5' := Lib.hid (B5.out.below (bel))
    have B7' := Lib.hid (B7.out.below (bel))
    have B8' := Lib.hid (B8.out.below (bel))
    have O7' := Lib.hid (O7.out.below (bel))
    have O8' := Lib.hid (O8.out.below (bel))
    have OF' := Lib.hid (OF.out.below (bel))
    have OP' := Lib.hid (OP.out.below (bel))
    have O9' := Lib.hid (O9.out.below (bel))
    have B9' := Lib.hid (B9.out.below (bel))
    have O11' := Lib.hid (O11.out.below (bel))
    have B11' := Lib.hid (B11.out.below (bel))
    have HB' := Lib.hid (HB.out.trans ((bel).mono HB.out.size))
    clear B3 B4 B5 B7 B8 O7 O8 OF OP O9 B9 O11 B11 HB
    have B3 := Lib.hid B3'.out
    have B4 := Lib.hid B4'.out
    have B5 := Lib.hid B5'.out
    have B7 := Lib.hid B7'.out
    have B8 := Lib.hid B8'.out
    have O7 := Lib.hid O7'.out
    have O8 := Lib.hid O8'.out
    have OF := Lib.hid OF'.out
    have OP := Lib.hid OP'.out
    have O9 := Lib.hid O9'.out
    have B9 := Lib.hid B9'.out
    have O11 := Lib.hid O11'.out
    have B11 := Lib.hid B11'.out
    have HB := Lib.hid HB'.out
    clear B3' B4' B5' B7' B8' O7' O8' OF' OP' O9' B9' O11' B11' HB'
    clear bel
    have HS := Lib.hid (show (fun Wo => (HasBlk Wo x9 51 #[.slice p9.A d9.n p9.c] ∧ HasBlk Wo x11 51 #[.slice p11.A d9.n p11.c]) ∧ (HasBlk Wo x8 51 #[.slice q8.A d.n q8.c] ∧ HasBlk Wo (w.heap.size + 1) 51 #[.slice q.A d.n q.c])) u1 from ⟨⟨B9.out, B11.out⟩, B8.out, B4.out⟩)
    go_wp2
    refine HK _ _ (fun _ => HS.out) ?_
    clear HK
    refine wpAnyE_takeA (i := 3) (v := .bool false) rfl (by kernel_rfl) (fun _ _ _ h => h) (.inl ⟨by first | kernel_rfl | rfl, fun W hW => by go_simp⟩) HS.out ?_
    simp only [Act.put, List.setIfInBounds_toArray]
    refine wpAnyE_takeA (i := 4) (v := .bool false) rfl (by kernel_rfl) (fun _ _ _ h => h) (.inl ⟨by first | kernel_rfl | rfl, fun W hW => by go_simp⟩) HS.out ?_
    simp only [Act.put]
    refine wpAnyE_takeA (i := 5) (v := .int .i64 c1) rfl (by kernel_rfl) (fun _ _ _ h => h) (.inl ⟨by first | kernel_rfl | rfl, fun W hW => by go_simp⟩) HS.out ?_
    simp only [Act.put]
    refine wpAnyE_takeA (i := 6) (v := .int .i64 c1) rfl (by kernel_rfl) (fun _ _ _ h => h) (.inl ⟨by first | kernel_rfl | rfl, fun W hW => by go_simp⟩) HS.out ?_
    simp only [Act.put]
    refine wpAnyE_takeA (i := 7) (v := .bool false) rfl (by kernel_rfl) (fun _ _ _ h => h) (.inl ⟨by first | kernel_rfl | rfl, fun W hW => by go_simp⟩) HS.out ?_
    simp only [Act.put]
    refine wpAnyE_takeA (i := 8) (v := .bool false) rfl (by kernel_rfl) (fun _ _ _ h => h) (.inl ⟨by first | kernel_rfl | rfl, fun W hW => by go_simp⟩) HS.out ?_
    simp only [Act.put]
    refine wpAnyE_takeA (i := 9) (v := .bool false) rfl (by kernel_rfl) (fun _ _ _ h => h) (.inl ⟨by first | kernel_rfl | rfl, fun W hW => by go_simp⟩) HS.out ?_
    simp only [Act.put]
    refine wpAnyE_takeA (i := 10) (v := .int .i64 n1) rfl (by kernel_rfl) (fun _ _ _ h => h) (.inl ⟨by first | kernel_rfl | rfl, fun W hW => by go_simp⟩) HS.out ?_
    simp only [Act.put]
    refine wpAnyE_takeA (i := 11) (v := .int .i64 n1) rfl (by kernel_rfl) (fun _ _ _ h => h) (.inl ⟨by first | kernel_rfl | rfl, fun W hW => by go_simp⟩) HS.out ?_
    simp only [Act.put]
    refine wpAnyE_takeA (i := 12) (v := .bool false) rfl (by kernel_rfl) (fun _ _ _ h => h) (.inl ⟨by first | kernel_rfl | rfl, fun W hW => by go_simp⟩) HS.out ?_
    simp only [Act.put]
    refine wpAnyE_takeA (i := 13) (v := .bool false) rfl (by kernel_rfl) (fun _ _ _ h => h) (.inl ⟨by first | kernel_rfl | rfl, fun W hW => by go_simp⟩) HS.out ?_
    simp only [Act.put]
    refine wpAnyE_takeA (i := 14) (v := .bool false) rfl (by kernel_rfl) (fun _ _ _ h => h) (.inl ⟨by first | kernel_rfl | rfl, fun W hW => by go_simp⟩) HS.out ?_
    simp only [Act.put]
    refine wpAnyE_takeA (i := 15) (v := .int .i64 e2) rfl (by kernel_rfl) (fun _ _ _ h => h) (.inl ⟨by first | kernel_rfl | rfl, fun W hW => by go_simp⟩) HS.out ?_
    simp only [Act.put]
    refine wpAnyE_takeA (i := 16) (v := .int .i64 e2) rfl (by kernel_rfl) (fun _ _ _ h => h) (.inl ⟨by first | kernel_rfl | rfl, fun W hW => by go_simp⟩) HS.out ?_
    simp only [Act.put]
    refine wpAnyE_takeA (i := 17) (v := .bool false) rfl (by kernel_rfl) (fun _ _ _ h => h) (.inl ⟨by first | kernel_rfl | rfl, fun W hW => by go_simp⟩) HS.out ?_
    simp only [Act.put]
    refine wpAnyE_takeA (i := 18) (v := .bool false) rfl (by kernel_rfl) (fun _ _ _ h => h) (.inl ⟨by first | kernel_rfl | rfl, fun W hW => by go_simp⟩) HS.out ?_
    simp only [Act.put]
    refine wpAnyE_takeA (i := 19) (v := .bool false) rfl (by kernel_rfl) (fun _ _ _ h => h) (.inl ⟨by first | kernel_rfl | rfl, fun W hW => by go_simp⟩) HS.out ?_
    simp only [Act.put]
    refine wpAnyE_takeA (i := 20) (v := .bool b1) rfl (by kernel_rfl) (fun _ _ _ h => h) (.inl ⟨by first | kernel_rfl | rfl, fun W hW => by go_simp⟩) HS.out ?_
    simp only [Act.put]
    refine wpAnyE_takeA (i := 21) (v := .bool b1) rfl (by kernel_rfl) (fun _ _ _ h => h) (.inl ⟨by first | kernel_rfl | rfl, fun W hW => by go_simp⟩) HS.out ?_
    simp only [Act.put]
    refine wpAnyE_takeA (i := 22) (v := .bool false) rfl (by kernel_rfl) (fun _ _ _ h => h) (.inl ⟨by first | kernel_rfl | rfl, fun W hW => by go_simp⟩) HS.out ?_
    simp only [Act.put]
    refine wpAnyE_takeA (i := 23) (v := .bool false) rfl (by kernel_rfl) (fun _ _ _ h => h) (.inl ⟨by first | kernel_rfl | rfl, fun W hW => by go_simp⟩) HS.out ?_
    simp only [Act.put]
    refine wpAnyE_takeA (i := 24) (v := .bool false) rfl (by kernel_rfl) (fun _ _ _ h => h) (.inl ⟨by first | kernel_rfl | rfl, fun W hW => by go_simp⟩) HS.out ?_
    simp only [Act.put]
    refine wpAnyE_takeA (i := 25) (v := .int .i64 e3) rfl (by kernel_rfl) (fun _ _ _ h => h) (.inl ⟨by first | kernel_rfl | rfl, fun W hW => by go_simp⟩) HS.out ?_
    simp only [Act.put]
    refine wpAnyE_takeA (i := 26) (v := .int .i64 e3) rfl (by kernel_rfl) (fun _ _ _ h => h) (.inl ⟨by first | kernel_rfl | rfl, fun W hW => by go_simp⟩) HS.out ?_
    simp only [Act.put]
    refine wpAnyE_takeA (i := 27) (v := .bool false) rfl (by kernel_rfl) (fun _ _ _ h => h) (.inl ⟨by first | kernel_rfl | rfl, fun W hW => by go_simp⟩) HS.out ?_
    simp only [Act.put]
    refine wpAnyE_takeA (i := 28) (v := .bool false) rfl (by kernel_rfl) (fun _ _ _ h => h) (.inl ⟨by first | kernel_rfl | rfl, fun W hW => by go_simp⟩) HS.out ?_
    simp only [Act.put]
    refine wpAnyE_takeA (i := 29) (v := .bool false) rfl (by kernel_rfl) (fun _ _ _ h => h) (.inl ⟨by first | kernel_rfl | rfl, fun W hW => by go_simp⟩) HS.out ?_
    simp only [Act.put]
    refine wpAnyE_takeA (i := 30) (v := .agg #[.slice q8.A d.n q8.c]) rfl (by kernel_rfl) (fun _ _ _ h => h) (.inl ⟨by first | kernel_rfl | rfl, fun W hW => ?_⟩) HS.out ?_
    · have q0 := hW.1.1.cell 0
      have q1 := hW.1.2.cell 0
      have q2 := hW.2.1.cell 0
      have q3 := hW.2.2.cell 0
      have z0 := hW.1.1.lt
      have z1 := hW.1.2.lt
      have z2 := hW.2.1.lt
      have z3 := hW.2.2.lt
      simp at q0 q1 q2 q3
      go_simp
    simp only [Act.put]
    refine wpAnyE_takeA (i := 32) (v := .agg #[.slice q.A d.n q.c]) rfl (by kernel_rfl) (fun _ _ _ h => h) (.inl ⟨by first | kernel_rfl | rfl, fun W hW => ?_⟩) HS.out ?_
    · have q0 := hW.1.1.cell 0
      have q1 := hW.1.2.cell 0
      have q2 := hW.2.1.cell 0
      have q3 := hW.2.2.cell 0
      have z0 := hW.1.1.lt
      have z1 := hW.1.2.lt
      have z2 := hW.2.1.lt
      have z3 := hW.2.2.lt
      simp at q0 q1 q2 q3
      go_simp
    simp only [Act.put]
    refine wpAnyE_step (i := 31) rfl (by kernel_rfl) (fun KQ HK => ?_)
    go_simp
    refine wpList_free (by kernel_rfl) ?_
    have KX := Lib.hid (pcheck_any d q8 Sm.out u1 O8.out)
    go_wp2_with fail
    refine KX.out.mono ?_
    rintro e u2 ⟨rfl, bel⟩
    clear KX HS
    have BD' := Lib.hid (BD.out.trans ((bel).mono BD.out.size))
    clear BD
    have BD := Lib.hid BD'.out
    clear BD'
    have B3' := Lib.hid (B3.out.below (bel))
    have B4' := Lib.hid (B4.out.below (bel))
    have B5' := Lib.hid (B5.out.below (bel))
    have B7' := Lib.hid (B7.out.below (bel))
    have B8' := Lib.hid (B8.out.below (bel))
    have O7' := Lib.hid (O7.out.below (bel))
    have O8' := Lib.hid (O8.out.below (bel))
    have OF' := Lib.hid (OF.out.below (bel))
    have OP' := Lib.hid (OP.out.below (bel))
    have O9' := Lib.hid (O9.out.below (bel))
    have B9' := Lib.hid (B9.out.below (bel))
    have O11' := Lib.hid (O11.out.below (bel))
    have B11' := Lib.hid (B11.out.below (bel))
    have HB' := Lib.hid (HB.out.trans ((bel).mono HB.out.size))
    clear B3 B4 B5 B7 B8 O7 O8 OF OP O9 B9 O11 B11 HB
    have B3 := Lib.hid B3'.out
    have B4 := Lib.hid B4'.out
    have B5 := Lib.hid B5'.out
    have B7 := Lib.hid B7'.out
    have B8 := Lib.hid B8'.out
    have O7 := Lib.hid O7'.out
    have O8 := Lib.hid O8'.out
    have OF := Lib.hid OF'.out
    have OP := Lib.hid OP'.out
    have O9 := Lib.hid O9'.out
    have B9 := Lib.hid B9'.out
    have O11 := Lib.hid O11'.out
    have B11 := Lib.hid B11'.out
    have HB := Lib.hid HB'.out
    clear B3' B4' B5' B7' B8' O7' O8' OF' OP' O9' B9' O11' B11' HB'
    clear bel
    have HS := Lib.hid (show (fun Wo => (HasBlk Wo x9 51 #[.slice p9.A d9.n p9.c] ∧ HasBlk Wo x11 51 #[.slice p11.A d9.n p11.c]) ∧ (HasBlk Wo x8 51 #[.slice q8.A d.n q8.c] ∧ HasBlk Wo (w.heap.size + 1) 51 #[.slice q.A d.n q.c])) u2 from ⟨⟨B9.out, B11.out⟩, B8.out, B4.out⟩)
    go_wp2
    refine HK _ _ (fun _ => HS.out) ?_
    clear HK
    refine wpAnyE_step (i := 33) rfl (by kernel_rfl) (fun KQ HK => ?_)
    go_simp
    refine wpList_free (by kernel_rfl) ?_
    have KX := Lib.hid (refcheckp_any d q Sm.out u2 OP.out)
    go_wp2_with fail
    refine KX.out.mono ?_
    rintro e u3 ⟨rfl, bel⟩
    clear KX HS
    have BD' := Lib.hid (BD.out.trans ((bel).mono BD.out.size))
    clear BD
    have BD := Lib.hid BD'.out
    clear BD'
    have B3' := Lib.hid (B3.out.below (bel))
    have B4' := Lib.hid (B4.out.below (bel))
    have B5' := Lib.hid (B5.out.below (bel))
    have B7' := Lib.hid (B7.out.below (bel))
    have B8' := Lib.hid (B8.out.below (bel))
    have O7' := Lib.hid (O7.out.below (bel))
    have O8' := Lib.hid (O8.out.below (bel))
    have OF' := Lib.hid (OF.out.below (bel))
    have OP' := Lib.hid (OP.out.below (bel))
    have O9' := Lib.hid (O9.out.below (bel))
    have B9' := Lib.hid (B9.out.below (bel))
    have O11' := Lib.hid (O11.out.below (bel))
    have B11' := Lib.hid (B11.out.below (bel))
    have HB' := Lib.hid (HB.out.trans ((bel).mono HB.out.size))
    clear B3 B4 B5 B7 B8 O7 O8 OF OP O9 B9 O11 B11 HB
    have B3 := Lib.hid B3'.out
    have B4 := Lib.hid B4'.out
    have B5 := Lib.hid B5'.out
    have B7 := Lib.hid B7'.out
    have B8 := Lib.hid B8'.out
    have O7 := Lib.hid O7'.out
    have O8 := Lib.hid O8'.out
    have OF := Lib.hid OF'.out
    have OP := Lib.hid OP'.out
    have O9 := Lib.hid O9'.out
    have B9 := Lib.hid B9'.out
    have O11 := Lib.hid O11'.out
    have B11 := Lib.hid B11'.out
    have HB := Lib.hid HB'.out
    clear B3' B4' B5' B7' B8' O7' O8' OF' OP' O9' B9' O11' B11' HB'
    clear bel
    have HS := Lib.hid (show (fun Wo => (HasBlk Wo x9 51 #[.slice p9.A d9.n p9.c] ∧ HasBlk Wo x11 51 #[.slice p11.A d9.n p11.c]) ∧ (HasBlk Wo x8 51 #[.slice q8.A d.n q8.c] ∧ HasBlk Wo (w.heap.size + 1) 51 #[.slice q.A d.n q.c])) u3 from ⟨⟨B9.out, B11.out⟩, B8.out, B4.out⟩)
    go_wp2
    refine HK _ _ (fun _ => HS.out) ?_
    clear HK
    refine wpAnyE_takeA (i := 34) (v := .bool false) rfl (by kernel_rfl) (fun _ _ _ h => h) (.inl ⟨by first | kernel_rfl | rfl, fun W hW => by go_simp⟩) HS.out ?_
    simp only [Act.put, List.setIfInBounds_toArray]
    refine wpAnyE_takeA (i := 35) (v := .bool false) rfl (by kernel_rfl) (fun _ _ _ h => h) (.inl ⟨by first | kernel_rfl | rfl, fun W hW => by go_simp⟩) HS.out ?_
    simp only [Act.put]
    refine wpAnyE_done (by kernel_rfl) ?_
    clear hss hsb HS
    have b9_0 := B9.out.cell 0
    have b9_z := B9.out.lt
    simp at b9_0
    have NB := Lib.hid (show d9.n ≤ 7 ∧ ∀ i, i < d9.n → d9.L i ≤ 4096 from V9.out.sm)
    go_wp2
    go_loopw [21] (fun s wr => ∃ (k : Nat) (g : Nat → Nat → Int), k ≤ d9.n ∧ s = .int .i64 k ∧ POwn wc.heap.size wr p9 (d9.of g) ∧ HasBlk wr x9 51 #[.slice p9.A d9.n p9.c] ∧ Below wc.heap.size wc wr) (fun s wr => d9.n - (intOf s).toNat)
    case atStart => exact ⟨0, d9.f, Nat.zero_le _, rfl, O9.out, B9.out, BD.out⟩
    case round =>
      clear b9_0 b9_z O9 O11 B9 B11
      have hn7 := NB.out.1
      obtain ⟨k, g, hk, rfl, hpo, hb9, hbd⟩ := hrel
      have PI := Lib.hid hpo
      have I9 := Lib.hid hb9
      have ID := Lib.hid hbd
      have i9 := hb9.cell 0
      have i9z := hb9.lt
      simp at i9
      clear hpo hb9 hbd
      by_cases hkn : k < d9.n
      rotate_left
      · have ek : k = d9.n := by omega
        subst ek
        have d0 : decide ((d9.n : Int) < (d9.n : Int)) = false := by simp
        have C3 := Lib.hid (H3.out.below ID.out)
        have C4 := Lib.hid (H4.out.below ID.out)
        have C7 := Lib.hid (H7.out.below ID.out)
        have C8 := Lib.hid (H8.out.below ID.out)
        have FF := Lib.hid (HFc.out.below ID.out)
        have FG := Lib.hid (HO7.out.below ID.out)
        have PF := Lib.hid (HPc.out.below ID.out)
        have PG := Lib.hid (HO8.out.below ID.out)
        have HE := Lib.hid (HBc.out.trans (ID.out.mono HBc.out.size))
        clear PI I9 ID H3 H4 H7 H8 HFc HO7 HPc HO8 HBc
        have c3_0 := C3.out.cell 0
        have c3_1 := C3.out.cell 1
        have c3_2 := C3.out.cell 2
        have c3_3 := C3.out.cell 3
        have c3_4 := C3.out.cell 4
        have c3_5 := C3.out.cell 5
        have c3_z := C3.out.lt
        simp at c3_0 c3_1 c3_2 c3_3 c3_4 c3_5
        have c7_0 := C7.out.cell 0
        have c7_1 := C7.out.cell 1
        have c7_2 := C7.out.cell 2
        have c7_3 := C7.out.cell 3
        have c7_4 := C7.out.cell 4
        have c7_5 := C7.out.cell 5
        have c7_z := C7.out.lt
        simp at c7_0 c7_1 c7_2 c7_3 c7_4 c7_5
        have KX := Lib.hid (refsame_any q7 p f f wr FG.out FF.out HFb.out)
        go_wp2_with fail
        refine KX.out.mono ?_
        rintro e z1 ⟨⟨b, rfl, hb⟩, bel⟩
        obtain rfl : b = true := hb.2 (FD.Same.refl f)
        clear KX hb
        clear c3_0 c3_1 c3_2 c3_3 c3_4 c3_5 c3_z
        clear c7_0 c7_1 c7_2 c7_3 c7_4 c7_5 c7_z
        have C4' := Lib.hid (C4.out.below bel)
        have C8' := Lib.hid (C8.out.below bel)
        have KX := Lib.hid (refsamep_any d d q8 q z1 (PG.out.below bel) (PF.out.below bel) Sm.out)
        have HE' := Lib.hid (HE.out.trans (bel.mono HE.out.size))
        clear bel C4 C8 C3 C7 PF PG FF FG HE
        have c4_0 := C4'.out.cell 0
        have c4_z := C4'.out.lt
        simp at c4_0
        have c8_0 := C8'.out.cell 0
        have c8_z := C8'.out.lt
        simp at c8_0
        go_wp2_with fail
        refine KX.out.mono ?_
        rintro e z2 ⟨⟨b, rfl, hb⟩, bel⟩
        obtain rfl : b = true := hb.2 (SamePD.refl d)
        clear KX hb
        go_wp2
        go_ret
        exact ⟨rfl, HE'.out.trans (bel.mono HE'.out.size)⟩
      have d0 : decide ((k : Int) < (d9.n : Int)) = true := decide_eq_true (by omega)
      obtain ⟨gA, oA, hPA, _, _⟩ := PI.out.ok.ls (show 0 < d9.n by omega)
      have hPA : p9.A = some ⟨gA, oA, none⟩ := hPA
      have PAe := Lib.hid hPA
      obtain ⟨wo, rfl⟩ : ∃ wo : World, wo = wr := ⟨wr, rfl⟩
      go_wp2
      clear i9 i9z d0
      go_loopw [22] (fun s wr => ∃ (j : Nat) (g2 : Nat → Nat → Int), j ≤ d9.L k ∧ s = .int .i64 j ∧ POwn wc.heap.size wr p9 (d9.of g2) ∧ HasBlk wr x9 51 #[.slice p9.A d9.n p9.c] ∧ Below wc.heap.size wc wr) (fun s wr => d9.L k - (intOf s).toNat)
      case atStart => exact ⟨0, g, Nat.zero_le _, rfl, PI.out, I9.out, ID.out⟩
      case round =>
        obtain ⟨j, g2, hj, rfl, hpo, hb9, hbd⟩ := hrel
        have PI := Lib.hid hpo
        have I9 := Lib.hid hb9
        have ID := Lib.hid hbd
        have i9 := hb9.cell 0
        have i9z := hb9.lt
        simp at i9
        have x2 := hpo.ok.lev (i := k) (j := 2) hPA hkn (by omega)
        have gz := hpo.ok.ls (show 0 < d9.n by omega)
        obtain ⟨gA', oA', hA', hgA', _⟩ := gz
        have e9 : some (⟨gA', oA', none⟩ : Addr) = some ⟨gA, oA, none⟩ := by rw [← hA']; exact hPA
        injection e9 with e9
        injection e9 with e91 e92
        subst e91 e92
        simp [pvc] at x2
        have LW := Lib.hid (NB.out.2 k hkn)
        obtain ⟨l1, hl1⟩ : ∃ x, (d9.of g2).L k = x := ⟨_, rfl⟩
        have hl1' : d9.L k = l1 := hl1
        rw [show (d9.of g2).L k = l1 from hl1] at x2
        rw [hl1'] at hj LW
        have h4096 := LW.out
        clear hpo hb9 hbd hA' hl1
        have i1 : (k : Int) < (d9.n : Int) := by omega
        have i2 : ¬ ((d9.n : Int) ≤ (k : Int)) := by omega
        have i0 : (0 : Int) ≤ (k : Int) := by omega
        by_cases hjl : j < l1
        rotate_left
        · obtain rfl : l1 = j := by omega
          have e0 : decide ((l1 : Int) < (l1 : Int)) = false := by simp
          rw [PAe.out] at i9
          go_wp2
          go_roundw
          case rel =>
            refine ⟨k + 1, g2, by omega, by go_num, PI.out, I9.out, ID.out⟩
          case measure => simp [intOf]; omega
        have e0 : decide ((j : Int) < (l1 : Int)) = true := decide_eq_true (by omega)
        obtain ⟨x, g3, hx, hxB, hxs, hfz, ⟨u, hu⟩, hput, hne⟩ := PI.out.put (i := k) (k := j) hkn (by rw [hl1']; exact hjl) 77
        have hx' : p9.KA k = some ⟨x, 0, none⟩ := hx
        rw [hx'] at x2
        have hne9 := hne x9 51 _ (by decide) I9.out
        have PN := Lib.hid hput
        have IN := Lib.hid (I9.out.far (p := ⟨x, j, none⟩) (by simp; omega) (.int .i64 77))
        have DN := Lib.hid (Below.setCell (p := ⟨x, j, none⟩) ID.out hxB (.int .i64 77))
        clear hput hne PI I9 ID hx hx'
        have j1 : (j : Int) < (l1 : Int) := by omega
        have j2 : ¬ ((l1 : Int) ≤ (j : Int)) := by omega
        have j0 : (0 : Int) ≤ (j : Int) := by omega
        rw [PAe.out] at i9
        go_wp2
        go_roundw
        case rel =>
          exact ⟨j + 1, g3, by rw [hl1']; omega, by go_num, by first | exact PN.out | simpa using PN.out, by first | exact IN.out | simpa using IN.out, by first | exact DN.out | simpa using DN.out⟩
        case measure => simp [intOf]; omega
end Go.Proofs.Ytibeoeooajelgaa
