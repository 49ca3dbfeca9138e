/- pyramid: the reference's Same. -/
import Derived.Test.YtibeoeooajelgaaY9
namespace Go.Proofs.Ytibeoeooajelgaa
open Go.RowKit
set_option linter.unusedVariables false

set_option maxRecDepth 100000 in
set_option maxHeartbeats 16000000 in
theorem refsamep_any (d e : PD) (p q : PP) (w : World) (h1 : POk w p d) (h2 : POk w q e) (hsm : d.Sm) :
    Calls Try.prog 38 #[.agg #[.slice p.A d.n p.c], .agg #[.slice q.A e.n q.c]] w fun x w' => EqR (SamePD d e) x ∧ Below w.heap.size w w' := by
  obtain ⟨A, c, KA, KC⟩ := p
  obtain ⟨A', c', KA', KC'⟩ := q
  dsimp only
  by_cases hnm : d.n = e.n
  rotate_left
  · have g0 : ((d.n : Int) != (e.n : Int)) = true := by simp; omega
    have NM := Lib.hid hnm
    have BX := Lib.hid (((Below.refl w.heap.size w).alloc (Nat.le_refl _) (.cells #[.slice A d.n c] 51)).alloc (by simp) (.cells #[.slice A' e.n c'] 51))
    clear h1 h2 hsm hnm
    go_enter Try.func38, Try.ntmps38
    go_wp2
    go_ret
    exact ⟨⟨false, rfl, ⟨fun h => (by cases h), fun h => absurd h.1 NM.out⟩⟩, BX.out⟩
  have OK1 := Lib.hid h1
  have OK2 := Lib.hid h2
  have Sm := Lib.hid hsm
  have hm := hsm.n
  have NM := Lib.hid hnm
  clear h1 h2 hsm
  obtain ⟨m2, hm2⟩ : ∃ m2, e.n = m2 := ⟨_, rfl⟩
  rw [hm2] at hnm ⊢
  obtain ⟨m, hmm⟩ : ∃ m, d.n = m := ⟨_, rfl⟩
  rw [hmm] at hnm hm ⊢
  subst hnm
  have M1 := Lib.hid hmm
  have M2 := Lib.hid hm2
  clear hmm hm2
  have B2 := Lib.hid (((Below.refl w.heap.size w).alloc (Nat.le_refl _) (.cells #[.slice A m c] 51)).alloc (by simp) (.cells #[.slice A' m c'] 51))
  have S2 := Lib.hid (show HasBlk ((w.alloc (.cells #[.slice A m c] 51)).alloc (.cells #[.slice A' m c'] 51)) w.heap.size 51 #[.slice A m c] from (hasBlk_new w 51 #[.slice A m c]).alloc _)
  have S3 := Lib.hid (show HasBlk ((w.alloc (.cells #[.slice A m c] 51)).alloc (.cells #[.slice A' m c'] 51)) (w.heap.size + 1) 51 #[.slice A' m c'] by simpa using hasBlk_new (w.alloc (.cells #[.slice A m c] 51)) 51 #[.slice A' m c'])
  go_enter Try.func38, Try.ntmps38
  go_wp2
  generalize ((w.alloc (.cells #[.slice A m c] 51)).alloc (.cells #[.slice A' m c'] 51)) = v0 at *
  go_loopw [5] (fun i wr => ∃ k : Nat, k ≤ m ∧ i = .int .i64 k ∧ (∀ i, i < k → LvE d e i) ∧ Below v0.heap.size v0 wr) (fun i wr => m - (intOf i).toNat)
  case atStart => exact ⟨0, Nat.zero_le _, rfl, fun j hj => absurd hj (by omega), Below.refl _ _⟩
  case round =>
    obtain ⟨i, hi, rfl, hall, hbel⟩ := hrel
    have AL := Lib.hid hall
    have BL := Lib.hid hbel
    have BW := Lib.hid (B2.out.trans (BL.out.mono B2.out.size))
    have R2 := Lib.hid (S2.out.below BL.out)
    have R3 := Lib.hid (S3.out.below BL.out)
    clear hall hbel
    have r0 := R2.out.cell 0
    have r1 := R3.out.cell 0
    have rz := R2.out.lt
    have ry := R3.out.lt
    simp at r0 r1
    by_cases him : i < m
    rotate_left
    · obtain rfl : m = i := by omega
      have d0 : decide ((m : Int) < (m : Int)) = false := by simp
      go_wp2
      go_ret
      exact ⟨⟨true, rfl, ⟨fun _ => ⟨NM.out, fun i hi => AL.out i (by rw [← M1.out]; exact hi)⟩, fun _ => rfl⟩⟩, BW.out⟩
    have d0 : decide ((i : Int) < (m : Int)) = true := decide_eq_true (by omega)
    obtain ⟨g1, o1, hA, hg1, _⟩ := OK1.out.ls (by rw [M1.out]; omega)
    obtain ⟨g2, o2, hB, hg2, _⟩ := OK2.out.ls (by rw [M2.out]; omega)
    dsimp only at hA hB
    subst hA hB
    go_upto_region 6 with fail
    clear r0 r1 d0
    have C1 := Lib.hid (fun (W : World) (hW : Below wr.heap.size wr W) (j : Nat) (hj : j < 3) => ((OK1.out.below BW.out).below hW).lev (i := i) rfl (show i < d.n by rw [M1.out]; exact him) hj)
    have C2 := Lib.hid (fun (W : World) (hW : Below wr.heap.size wr W) (j : Nat) (hj : j < 3) => ((OK2.out.below BW.out).below hW).lev (i := i) rfl (show i < e.n by rw [M2.out]; exact him) hj)
    obtain ⟨a1, ha1⟩ : ∃ x, d.W i = x := ⟨_, rfl⟩
    obtain ⟨a2, ha2⟩ : ∃ x, d.H i = x := ⟨_, rfl⟩
    obtain ⟨K1, hK1⟩ : ∃ x, KA i = x := ⟨_, rfl⟩
    obtain ⟨n1, hn1⟩ : ∃ x, d.L i = x := ⟨_, rfl⟩
    obtain ⟨k1, hk1⟩ : ∃ x, KC i = x := ⟨_, rfl⟩
    obtain ⟨b1, hb1⟩ : ∃ x, e.W i = x := ⟨_, rfl⟩
    obtain ⟨b2, hb2⟩ : ∃ x, e.H i = x := ⟨_, rfl⟩
    obtain ⟨K2, hK2⟩ : ∃ x, KA' i = x := ⟨_, rfl⟩
    obtain ⟨n2, hn2⟩ : ∃ x, e.L i = x := ⟨_, rfl⟩
    obtain ⟨k2, hk2⟩ : ∃ x, KC' i = x := ⟨_, rfl⟩
    have e1 := Lib.hid (And.intro ha1 (And.intro ha2 (And.intro hK1 (And.intro hn1 hk1))))
    have e2 := Lib.hid (And.intro hb1 (And.intro hb2 (And.intro hK2 (And.intro hn2 hk2))))
    clear ha1 ha2 hK1 hn1 hk1 hb1 hb2 hK2 hn2 hk2
    have i1 : (i : Int) < (m : Int) := by omega
    have i2 : ¬ ((m : Int) ≤ (i : Int)) := by omega
    have i0 : (0 : Int) ≤ (i : Int) := by omega
    go_cut [6, 7] from 23 to 33 (fun s6 s7 wx => ∃ x6 x7, s6 = .pointer (some ⟨x6, 0, none⟩) ∧ s7 = .pointer (some ⟨x7, 0, none⟩) ∧ HasBlk wx x6 74 #[.int .i64 a1, .int .i64 a2, .slice K1 n1 k1] ∧ HasBlk wx x7 74 #[.int .i64 b1, .int .i64 b2, .slice K2 n2 k2] ∧ Below wr.heap.size wr wx)
    case first =>
      have HS := Lib.hid (show (fun Wo => HasBlk Wo w.heap.size 51 #[.slice (some ⟨g1, o1, none⟩) m c] ∧ HasBlk Wo (w.heap.size + 1) 51 #[.slice (some ⟨g2, o2, none⟩) m c'] ∧ Below wr.heap.size wr Wo) wr.drew from ⟨R2.out.below (Below.refl _ _).drew, R3.out.below (Below.refl _ _).drew, (Below.refl _ _).drew⟩)
      refine wp_region_E (fun Wo => HasBlk Wo w.heap.size 51 #[.slice (some ⟨g1, o1, none⟩) m c] ∧ HasBlk Wo (w.heap.size + 1) 51 #[.slice (some ⟨g2, o2, none⟩) m c'] ∧ Below wr.heap.size wr Wo) 99 (by kernel_rfl) ?_
      generalize gwd : wr.drew = v1 at *
      clear gwd
      refine wpAnyE_takeA (i := 0) (v := .pointer (some ⟨w.heap.size, 0, none⟩)) rfl (by kernel_rfl) (fun _ _ _ h => h) (.inl ⟨by first | kernel_rfl | rfl, fun W hW => ?_⟩) HS.out ?_
      · obtain ⟨hW1, hW2, hWA⟩ := hW
        have r0 := hW1.cell 0
        have r1 := hW2.cell 0
        simp at r0 r1

        go_simp
      simp only [Act.put, List.setIfInBounds_toArray]
      refine wpAnyE_takeA (i := 1) (v := .slice (some ⟨g1, o1, none⟩) m c) rfl (by kernel_rfl) (fun _ _ _ h => h) (.inl ⟨by first | kernel_rfl | rfl, fun W hW => ?_⟩) HS.out ?_
      · obtain ⟨hW1, hW2, hWA⟩ := hW
        have r0 := hW1.cell 0
        have r1 := hW2.cell 0
        simp at r0 r1

        go_simp
      simp only [Act.put]
      refine wpAnyE_takeA (i := 2) (v := .int .i64 i) rfl (by kernel_rfl) (fun _ _ _ h => h) (.inl ⟨by first | kernel_rfl | rfl, fun W hW => ?_⟩) HS.out ?_
      · obtain ⟨hW1, hW2, hWA⟩ := hW
        have r0 := hW1.cell 0
        have r1 := hW2.cell 0
        simp at r0 r1

        go_simp
      simp only [Act.put]
      refine wpAnyE_takeA (i := 3) (v := .pointer (some ⟨g1, (o1 + i * 3), none⟩)) rfl (by kernel_rfl) (fun _ _ _ h => h) (.inl ⟨by first | kernel_rfl | rfl, fun W hW => ?_⟩) HS.out ?_
      · obtain ⟨hW1, hW2, hWA⟩ := hW
        have r0 := hW1.cell 0
        have r1 := hW2.cell 0
        simp at r0 r1

        go_simp
      simp only [Act.put]
      refine wpAnyE_takeA (i := 4) (v := .agg #[.int .i64 a1, .int .i64 a2, .slice K1 n1 k1]) rfl (by kernel_rfl) (fun _ _ _ h => h) (.inl ⟨by first | kernel_rfl | rfl, fun W hW => ?_⟩) HS.out ?_
      · obtain ⟨hW1, hW2, hWA⟩ := hW
        have r0 := hW1.cell 0
        have r1 := hW2.cell 0
        simp at r0 r1
        have q0 := C1.out W hWA 0 (by omega)
        have q1 := C1.out W hWA 1 (by omega)
        have q2 := C1.out W hWA 2 (by omega)
        simp [pvc] at q0 q1 q2
        rw [e1.out.1] at q0
        rw [e1.out.2.1] at q1
        rw [e1.out.2.2.1, e1.out.2.2.2.1, e1.out.2.2.2.2] at q2
        go_simp
      simp only [Act.put]
      refine wpAnyE_takeA (i := 5) (v := .pointer (some ⟨(w.heap.size + 1), 0, none⟩)) rfl (by kernel_rfl) (fun _ _ _ h => h) (.inl ⟨by first | kernel_rfl | rfl, fun W hW => ?_⟩) HS.out ?_
      · obtain ⟨hW1, hW2, hWA⟩ := hW
        have r0 := hW1.cell 0
        have r1 := hW2.cell 0
        simp at r0 r1

        go_simp
      simp only [Act.put]
      refine wpAnyE_takeA (i := 6) (v := .slice (some ⟨g2, o2, none⟩) m c') rfl (by kernel_rfl) (fun _ _ _ h => h) (.inl ⟨by first | kernel_rfl | rfl, fun W hW => ?_⟩) HS.out ?_
      · obtain ⟨hW1, hW2, hWA⟩ := hW
        have r0 := hW1.cell 0
        have r1 := hW2.cell 0
        simp at r0 r1

        go_simp
      simp only [Act.put]
      refine wpAnyE_takeA (i := 7) (v := .int .i64 i) rfl (by kernel_rfl) (fun _ _ _ h => h) (.inl ⟨by first | kernel_rfl | rfl, fun W hW => ?_⟩) HS.out ?_
      · obtain ⟨hW1, hW2, hWA⟩ := hW
        have r0 := hW1.cell 0
        have r1 := hW2.cell 0
        simp at r0 r1

        go_simp
      simp only [Act.put]
      refine wpAnyE_takeA (i := 8) (v := .pointer (some ⟨g2, (o2 + i * 3), none⟩)) rfl (by kernel_rfl) (fun _ _ _ h => h) (.inl ⟨by first | kernel_rfl | rfl, fun W hW => ?_⟩) HS.out ?_
      · obtain ⟨hW1, hW2, hWA⟩ := hW
        have r0 := hW1.cell 0
        have r1 := hW2.cell 0
        simp at r0 r1

        go_simp
      simp only [Act.put]
      refine wpAnyE_takeA (i := 9) (v := .agg #[.int .i64 b1, .int .i64 b2, .slice K2 n2 k2]) rfl (by kernel_rfl) (fun _ _ _ h => h) (.inl ⟨by first | kernel_rfl | rfl, fun W hW => ?_⟩) HS.out ?_
      · obtain ⟨hW1, hW2, hWA⟩ := hW
        have r0 := hW1.cell 0
        have r1 := hW2.cell 0
        simp at r0 r1
        have q0 := C2.out W hWA 0 (by omega)
        have q1 := C2.out W hWA 1 (by omega)
        have q2 := C2.out W hWA 2 (by omega)
        simp [pvc] at q0 q1 q2
        rw [e2.out.1] at q0
        rw [e2.out.2.1] at q1
        rw [e2.out.2.2.1, e2.out.2.2.2.1, e2.out.2.2.2.2] at q2
        go_simp
      simp only [Act.put]
      refine wpAnyE_two (i := 10) (j := 11) rfl rfl (by kernel_rfl) (fun KQ HK => ?_) (fun KQ HK => ?_)
      · go_wp2
        have hv0 : wr.heap.size ≤ v1.heap.size := HS.out.2.2.size
        have hbel := (Below.refl v1.heap.size v1).alloc (Nat.le_refl _) (.cells #[.int .i64 0, .int .i64 0, .slice none 0 0] 74)
        have Zx6 := Lib.hid (hasBlk_new v1 74 #[.int .i64 0, .int .i64 0, .slice none 0 0])
        have HSn := Lib.hid (show (fun Wo => HasBlk Wo w.heap.size 51 #[.slice (some ⟨g1, o1, none⟩) m c] ∧ HasBlk Wo (w.heap.size + 1) 51 #[.slice (some ⟨g2, o2, none⟩) m c'] ∧ Below wr.heap.size wr Wo) (v1.alloc (.cells #[.int .i64 0, .int .i64 0, .slice none 0 0] 74)) from ⟨HS.out.1.below hbel, HS.out.2.1.below hbel, HS.out.2.2.trans (hbel.mono hv0)⟩)
        clear hbel HS
        have HS := HSn
        clear HSn
        refine HK _ _ (fun _ => HS.out) ?_
        clear HK
        obtain ⟨x6, hx6⟩ : ∃ x6, x6 = v1.heap.size := ⟨_, rfl⟩
        rw [← hx6] at Zx6 hv0 ⊢

        have Lx6 := Lib.hid hv0
        clear hx6 hv0
        generalize v1.alloc (.cells #[.int .i64 0, .int .i64 0, .slice none 0 0] 74) = v2 at *
        refine wpAnyE_step (i := 11) rfl (by kernel_rfl) (fun KQ HK => ?_)
        go_wp2
        have hv0 : wr.heap.size ≤ v2.heap.size := HS.out.2.2.size
        have hbel := (Below.refl v2.heap.size v2).alloc (Nat.le_refl _) (.cells #[.int .i64 0, .int .i64 0, .slice none 0 0] 74)
        have Zx7 := Lib.hid (hasBlk_new v2 74 #[.int .i64 0, .int .i64 0, .slice none 0 0])
        have HSn := Lib.hid (show (fun Wo => HasBlk Wo w.heap.size 51 #[.slice (some ⟨g1, o1, none⟩) m c] ∧ HasBlk Wo (w.heap.size + 1) 51 #[.slice (some ⟨g2, o2, none⟩) m c'] ∧ Below wr.heap.size wr Wo) (v2.alloc (.cells #[.int .i64 0, .int .i64 0, .slice none 0 0] 74)) from ⟨HS.out.1.below hbel, HS.out.2.1.below hbel, HS.out.2.2.trans (hbel.mono hv0)⟩)
        have Zx6n := Lib.hid (Zx6.out.below hbel)
        have hne := Zx6.out.lt
        clear Zx6
        have Zx6 := Zx6n
        clear Zx6n
        clear hbel HS
        have HS := HSn
        clear HSn
        refine HK _ _ (fun _ => HS.out) ?_
        clear HK
        obtain ⟨x7, hx7⟩ : ∃ x7, x7 = v2.heap.size := ⟨_, rfl⟩
        rw [← hx7] at Zx7 hv0 ⊢
        rw [← hx7] at hne
        have Lx7 := Lib.hid hv0
        clear hx7 hv0
        generalize v2.alloc (.cells #[.int .i64 0, .int .i64 0, .slice none 0 0] 74) = v3 at *
        refine wpAnyE_step (i := 12) rfl (by kernel_rfl) (fun KQ HK => ?_)
        have z0 := Zx6.out.cell 0
        have z1 := Zx6.out.cell 1
        have z2 := Zx6.out.cell 2
        have zf0 := Zx6.out.frozen 0
        have zf1 := Zx6.out.frozen 1
        have zf2 := Zx6.out.frozen 2
        have zz := Zx6.out.lt
        simp at z0 z1 z2
        go_wp2
        have hl := Lx6.out
        have Zx6n := Lib.hid (show HasBlk (((v3.setCell ⟨x6, 0, none⟩ (.int .i64 a1)).setCell ⟨x6, 1, none⟩ (.int .i64 a2)).setCell ⟨x6, 2, none⟩ (.slice K1 n1 k1)) x6 74 #[.int .i64 a1, .int .i64 a2, .slice K1 n1 k1] by simpa using ((Zx6.out.set 0 (.int .i64 a1)).set 1 (.int .i64 a2)).set 2 (.slice K1 n1 k1))
        have Zx7n := Lib.hid (show HasBlk (((v3.setCell ⟨x6, 0, none⟩ (.int .i64 a1)).setCell ⟨x6, 1, none⟩ (.int .i64 a2)).setCell ⟨x6, 2, none⟩ (.slice K1 n1 k1)) x7 74 _ from (((Zx7.out.far (p := ⟨x6, 0, none⟩) (by simp; omega) (.int .i64 a1)).far (p := ⟨x6, 1, none⟩) (by simp; omega) (.int .i64 a2)).far (p := ⟨x6, 2, none⟩) (by simp; omega) (.slice K1 n1 k1)))
        have HSn := Lib.hid (show (fun Wo => HasBlk Wo w.heap.size 51 #[.slice (some ⟨g1, o1, none⟩) m c] ∧ HasBlk Wo (w.heap.size + 1) 51 #[.slice (some ⟨g2, o2, none⟩) m c'] ∧ Below wr.heap.size wr Wo) (((v3.setCell ⟨x6, 0, none⟩ (.int .i64 a1)).setCell ⟨x6, 1, none⟩ (.int .i64 a2)).setCell ⟨x6, 2, none⟩ (.slice K1 n1 k1)) from ⟨(((HS.out.1.far (p := ⟨x6, 0, none⟩) (by simp; omega) (.int .i64 a1)).far (p := ⟨x6, 1, none⟩) (by simp; omega) (.int .i64 a2)).far (p := ⟨x6, 2, none⟩) (by simp; omega) (.slice K1 n1 k1)), (((HS.out.2.1.far (p := ⟨x6, 0, none⟩) (by simp; omega) (.int .i64 a1)).far (p := ⟨x6, 1, none⟩) (by simp; omega) (.int .i64 a2)).far (p := ⟨x6, 2, none⟩) (by simp; omega) (.slice K1 n1 k1)), (Below.setCell (p := ⟨x6, 2, none⟩) (Below.setCell (p := ⟨x6, 1, none⟩) (Below.setCell (p := ⟨x6, 0, none⟩) HS.out.2.2 Lx6.out (.int .i64 a1)) Lx6.out (.int .i64 a2)) Lx6.out (.slice K1 n1 k1))⟩)
        clear Zx6 Zx7 HS z0 z1 z2 zf0 zf1 zf2 zz hl
        have Zx6 := Zx6n
        have Zx7 := Zx7n
        have HS := HSn
        clear Zx6n Zx7n HSn
        refine HK _ _ (fun _ => HS.out) ?_
        clear HK
        generalize (((v3.setCell ⟨x6, 0, none⟩ (.int .i64 a1)).setCell ⟨x6, 1, none⟩ (.int .i64 a2)).setCell ⟨x6, 2, none⟩ (.slice K1 n1 k1)) = v4 at *
        refine wpAnyE_step (i := 13) rfl (by kernel_rfl) (fun KQ HK => ?_)
        have z0 := Zx7.out.cell 0
        have z1 := Zx7.out.cell 1
        have z2 := Zx7.out.cell 2
        have zf0 := Zx7.out.frozen 0
        have zf1 := Zx7.out.frozen 1
        have zf2 := Zx7.out.frozen 2
        have zz := Zx7.out.lt
        simp at z0 z1 z2
        go_wp2
        have hl := Lx7.out
        have Zx7n := Lib.hid (show HasBlk (((v4.setCell ⟨x7, 0, none⟩ (.int .i64 b1)).setCell ⟨x7, 1, none⟩ (.int .i64 b2)).setCell ⟨x7, 2, none⟩ (.slice K2 n2 k2)) x7 74 #[.int .i64 b1, .int .i64 b2, .slice K2 n2 k2] by simpa using ((Zx7.out.set 0 (.int .i64 b1)).set 1 (.int .i64 b2)).set 2 (.slice K2 n2 k2))
        have Zx6n := Lib.hid (show HasBlk (((v4.setCell ⟨x7, 0, none⟩ (.int .i64 b1)).setCell ⟨x7, 1, none⟩ (.int .i64 b2)).setCell ⟨x7, 2, none⟩ (.slice K2 n2 k2)) x6 74 _ from (((Zx6.out.far (p := ⟨x7, 0, none⟩) (by simp; omega) (.int .i64 b1)).far (p := ⟨x7, 1, none⟩) (by simp; omega) (.int .i64 b2)).far (p := ⟨x7, 2, none⟩) (by simp; omega) (.slice K2 n2 k2)))
        have HSn := Lib.hid (show (fun Wo => HasBlk Wo w.heap.size 51 #[.slice (some ⟨g1, o1, none⟩) m c] ∧ HasBlk Wo (w.heap.size + 1) 51 #[.slice (some ⟨g2, o2, none⟩) m c'] ∧ Below wr.heap.size wr Wo) (((v4.setCell ⟨x7, 0, none⟩ (.int .i64 b1)).setCell ⟨x7, 1, none⟩ (.int .i64 b2)).setCell ⟨x7, 2, none⟩ (.slice K2 n2 k2)) from ⟨(((HS.out.1.far (p := ⟨x7, 0, none⟩) (by simp; omega) (.int .i64 b1)).far (p := ⟨x7, 1, none⟩) (by simp; omega) (.int .i64 b2)).far (p := ⟨x7, 2, none⟩) (by simp; omega) (.slice K2 n2 k2)), (((HS.out.2.1.far (p := ⟨x7, 0, none⟩) (by simp; omega) (.int .i64 b1)).far (p := ⟨x7, 1, none⟩) (by simp; omega) (.int .i64 b2)).far (p := ⟨x7, 2, none⟩) (by simp; omega) (.slice K2 n2 k2)), (Below.setCell (p := ⟨x7, 2, none⟩) (Below.setCell (p := ⟨x7, 1, none⟩) (Below.setCell (p := ⟨x7, 0, none⟩) HS.out.2.2 Lx7.out (.int .i64 b1)) Lx7.out (.int .i64 b2)) Lx7.out (.slice K2 n2 k2))⟩)
        clear Zx7 Zx6 HS z0 z1 z2 zf0 zf1 zf2 zz hl
        have Zx7 := Zx7n
        have Zx6 := Zx6n
        have HS := HSn
        clear Zx7n Zx6n HSn
        refine HK _ _ (fun _ => HS.out) ?_
        clear HK
        generalize (((v4.setCell ⟨x7, 0, none⟩ (.int .i64 b1)).setCell ⟨x7, 1, none⟩ (.int .i64 b2)).setCell ⟨x7, 2, none⟩ (.slice K2 n2 k2)) = v5 at *
        refine wpAnyE_done (by kernel_rfl) ?_
        go_wp2_with fail
        go_meet
        exact ⟨x6, x7, rfl, rfl, Zx6.out, Zx7.out, HS.out.2.2⟩
      · go_wp2
        have hv0 : wr.heap.size ≤ v1.heap.size := HS.out.2.2.size
        have hbel := (Below.refl v1.heap.size v1).alloc (Nat.le_refl _) (.cells #[.int .i64 0, .int .i64 0, .slice none 0 0] 74)
        have Zx7 := Lib.hid (hasBlk_new v1 74 #[.int .i64 0, .int .i64 0, .slice none 0 0])
        have HSn := Lib.hid (show (fun Wo => HasBlk Wo w.heap.size 51 #[.slice (some ⟨g1, o1, none⟩) m c] ∧ HasBlk Wo (w.heap.size + 1) 51 #[.slice (some ⟨g2, o2, none⟩) m c'] ∧ Below wr.heap.size wr Wo) (v1.alloc (.cells #[.int .i64 0, .int .i64 0, .slice none 0 0] 74)) from ⟨HS.out.1.below hbel, HS.out.2.1.below hbel, HS.out.2.2.trans (hbel.mono hv0)⟩)
        clear hbel HS
        have HS := HSn
        clear HSn
        refine HK _ _ (fun _ => HS.out) ?_
        clear HK
        obtain ⟨x7, hx7⟩ : ∃ x7, x7 = v1.heap.size := ⟨_, rfl⟩
        rw [← hx7] at Zx7 hv0 ⊢

        have Lx7 := Lib.hid hv0
        clear hx7 hv0
        generalize v1.alloc (.cells #[.int .i64 0, .int .i64 0, .slice none 0 0] 74) = v2 at *
        refine wpAnyE_step (i := 10) rfl (by kernel_rfl) (fun KQ HK => ?_)
        go_wp2
        have hv0 : wr.heap.size ≤ v2.heap.size := HS.out.2.2.size
        have hbel := (Below.refl v2.heap.size v2).alloc (Nat.le_refl _) (.cells #[.int .i64 0, .int .i64 0, .slice none 0 0] 74)
        have Zx6 := Lib.hid (hasBlk_new v2 74 #[.int .i64 0, .int .i64 0, .slice none 0 0])
        have HSn := Lib.hid (show (fun Wo => HasBlk Wo w.heap.size 51 #[.slice (some ⟨g1, o1, none⟩) m c] ∧ HasBlk Wo (w.heap.size + 1) 51 #[.slice (some ⟨g2, o2, none⟩) m c'] ∧ Below wr.heap.size wr Wo) (v2.alloc (.cells #[.int .i64 0, .int .i64 0, .slice none 0 0] 74)) from ⟨HS.out.1.below hbel, HS.out.2.1.below hbel, HS.out.2.2.trans (hbel.mono hv0)⟩)
        have Zx7n := Lib.hid (Zx7.out.below hbel)
        have hne := Zx7.out.lt
        clear Zx7
        have Zx7 := Zx7n
        clear Zx7n
        clear hbel HS
        have HS := HSn
        clear HSn
        refine HK _ _ (fun _ => HS.out) ?_
        clear HK
        obtain ⟨x6, hx6⟩ : ∃ x6, x6 = v2.heap.size := ⟨_, rfl⟩
        rw [← hx6] at Zx6 hv0 ⊢
        rw [← hx6] at hne
        have Lx6 := Lib.hid hv0
        clear hx6 hv0
        generalize v2.alloc (.cells #[.int .i64 0, .int .i64 0, .slice none 0 0] 74) = v3 at *
        refine wpAnyE_step (i := 12) rfl (by kernel_rfl) (fun KQ HK => ?_)
        have z0 := Zx6.out.cell 0
        have z1 := Zx6.out.cell 1
        have z2 := Zx6.out.cell 2
        have zf0 := Zx6.out.frozen 0
        have zf1 := Zx6.out.frozen 1
        have zf2 := Zx6.out.frozen 2
        have zz := Zx6.out.lt
        simp at z0 z1 z2
        go_wp2
        have hl := Lx6.out
        have Zx6n := Lib.hid (show HasBlk (((v3.setCell ⟨x6, 0, none⟩ (.int .i64 a1)).setCell ⟨x6, 1, none⟩ (.int .i64 a2)).setCell ⟨x6, 2, none⟩ (.slice K1 n1 k1)) x6 74 #[.int .i64 a1, .int .i64 a2, .slice K1 n1 k1] by simpa using ((Zx6.out.set 0 (.int .i64 a1)).set 1 (.int .i64 a2)).set 2 (.slice K1 n1 k1))
        have Zx7n := Lib.hid (show HasBlk (((v3.setCell ⟨x6, 0, none⟩ (.int .i64 a1)).setCell ⟨x6, 1, none⟩ (.int .i64 a2)).setCell ⟨x6, 2, none⟩ (.slice K1 n1 k1)) x7 74 _ from (((Zx7.out.far (p := ⟨x6, 0, none⟩) (by simp; omega) (.int .i64 a1)).far (p := ⟨x6, 1, none⟩) (by simp; omega) (.int .i64 a2)).far (p := ⟨x6, 2, none⟩) (by simp; omega) (.slice K1 n1 k1)))
        have HSn := Lib.hid (show (fun Wo => HasBlk Wo w.heap.size 51 #[.slice (some ⟨g1, o1, none⟩) m c] ∧ HasBlk Wo (w.heap.size + 1) 51 #[.slice (some ⟨g2, o2, none⟩) m c'] ∧ Below wr.heap.size wr Wo) (((v3.setCell ⟨x6, 0, none⟩ (.int .i64 a1)).setCell ⟨x6, 1, none⟩ (.int .i64 a2)).setCell ⟨x6, 2, none⟩ (.slice K1 n1 k1)) from ⟨(((HS.out.1.far (p := ⟨x6, 0, none⟩) (by simp; omega) (.int .i64 a1)).far (p := ⟨x6, 1, none⟩) (by simp; omega) (.int .i64 a2)).far (p := ⟨x6, 2, none⟩) (by simp; omega) (.slice K1 n1 k1)), (((HS.out.2.1.far (p := ⟨x6, 0, none⟩) (by simp; omega) (.int .i64 a1)).far (p := ⟨x6, 1, none⟩) (by simp; omega) (.int .i64 a2)).far (p := ⟨x6, 2, none⟩) (by simp; omega) (.slice K1 n1 k1)), (Below.setCell (p := ⟨x6, 2, none⟩) (Below.setCell (p := ⟨x6, 1, none⟩) (Below.setCell (p := ⟨x6, 0, none⟩) HS.out.2.2 Lx6.out (.int .i64 a1)) Lx6.out (.int .i64 a2)) Lx6.out (.slice K1 n1 k1))⟩)
        clear Zx6 Zx7 HS z0 z1 z2 zf0 zf1 zf2 zz hl
        have Zx6 := Zx6n
        have Zx7 := Zx7n
        have HS := HSn
        clear Zx6n Zx7n HSn
        refine HK _ _ (fun _ => HS.out) ?_
        clear HK
        generalize (((v3.setCell ⟨x6, 0, none⟩ (.int .i64 a1)).setCell ⟨x6, 1, none⟩ (.int .i64 a2)).setCell ⟨x6, 2, none⟩ (.slice K1 n1 k1)) = v4 at *
        refine wpAnyE_step (i := 13) rfl (by kernel_rfl) (fun KQ HK => ?_)
        have z0 := Zx7.out.cell 0
        have z1 := Zx7.out.cell 1
        have z2 := Zx7.out.cell 2
        have zf0 := Zx7.out.frozen 0
        have zf1 := Zx7.out.frozen 1
        have zf2 := Zx7.out.frozen 2
        have zz := Zx7.out.lt
        simp at z0 z1 z2
        go_wp2
        have hl := Lx7.out
        have Zx7n := Lib.hid (show HasBlk (((v4.setCell ⟨x7, 0, none⟩ (.int .i64 b1)).setCell ⟨x7, 1, none⟩ (.int .i64 b2)).setCell ⟨x7, 2, none⟩ (.slice K2 n2 k2)) x7 74 #[.int .i64 b1, .int .i64 b2, .slice K2 n2 k2] by simpa using ((Zx7.out.set 0 (.int .i64 b1)).set 1 (.int .i64 b2)).set 2 (.slice K2 n2 k2))
        have Zx6n := Lib.hid (show HasBlk (((v4.setCell ⟨x7, 0, none⟩ (.int .i64 b1)).setCell ⟨x7, 1, none⟩ (.int .i64 b2)).setCell ⟨x7, 2, none⟩ (.slice K2 n2 k2)) x6 74 _ from (((Zx6.out.far (p := ⟨x7, 0, none⟩) (by simp; omega) (.int .i64 b1)).far (p := ⟨x7, 1, none⟩) (by simp; omega) (.int .i64 b2)).far (p := ⟨x7, 2, none⟩) (by simp; omega) (.slice K2 n2 k2)))
        have HSn := Lib.hid (show (fun Wo => HasBlk Wo w.heap.size 51 #[.slice (some ⟨g1, o1, none⟩) m c] ∧ HasBlk Wo (w.heap.size + 1) 51 #[.slice (some ⟨g2, o2, none⟩) m c'] ∧ Below wr.heap.size wr Wo) (((v4.setCell ⟨x7, 0, none⟩ (.int .i64 b1)).setCell ⟨x7, 1, none⟩ (.int .i64 b2)).setCell ⟨x7, 2, none⟩ (.slice K2 n2 k2)) from ⟨(((HS.out.1.far (p := ⟨x7, 0, none⟩) (by simp; omega) (.int .i64 b1)).far (p := ⟨x7, 1, none⟩) (by simp; omega) (.int .i64 b2)).far (p := ⟨x7, 2, none⟩) (by simp; omega) (.slice K2 n2 k2)), (((HS.out.2.1.far (p := ⟨x7, 0, none⟩) (by simp; omega) (.int .i64 b1)).far (p := ⟨x7, 1, none⟩) (by simp; omega) (.int .i64 b2)).far (p := ⟨x7, 2, none⟩) (by simp; omega) (.slice K2 n2 k2)), (Below.setCell (p := ⟨x7, 2, none⟩) (Below.setCell (p := ⟨x7, 1, none⟩) (Below.setCell (p := ⟨x7, 0, none⟩) HS.out.2.2 Lx7.out (.int .i64 b1)) Lx7.out (.int .i64 b2)) Lx7.out (.slice K2 n2 k2))⟩)
        clear Zx7 Zx6 HS z0 z1 z2 zf0 zf1 zf2 zz hl
        have Zx7 := Zx7n
        have Zx6 := Zx6n
        have HS := HSn
        clear Zx7n Zx6n HSn
        refine HK _ _ (fun _ => HS.out) ?_
        clear HK
        generalize (((v4.setCell ⟨x7, 0, none⟩ (.int .i64 b1)).setCell ⟨x7, 1, none⟩ (.int .i64 b2)).setCell ⟨x7, 2, none⟩ (.slice K2 n2 k2)) = v5 at *
        refine wpAnyE_done (by kernel_rfl) ?_
        go_wp2_with fail
        go_meet
        exact ⟨x6, x7, rfl, rfl, Zx6.out, Zx7.out, HS.out.2.2⟩
    case rest =>
      obtain ⟨x6, x7, rfl, rfl, hZ6, hZ7, hbw⟩ := hcut
      have Z6 := Lib.hid hZ6
      have Z7 := Lib.hid hZ7
      have BC := Lib.hid (BW.out.trans (hbw.mono BW.out.size))
      have HR1 := Lib.hid (show Row wc K1 n1 1 (fun k _ => .int .i64 (d.f i k)) by
        have h := (OK1.out.below BC.out).kd i (by rw [M1.out]; exact him)
        rw [e1.out.2.2.2.1] at h
        dsimp only at h
        rw [e1.out.2.2.1] at h
        exact h)
      have HR2 := Lib.hid (show Row wc K2 n2 1 (fun k _ => .int .i64 (e.f i k)) by
        have h := (OK2.out.below BC.out).kd i (by rw [M2.out]; exact him)
        rw [e2.out.2.2.2.1] at h
        dsimp only at h
        rw [e2.out.2.2.1] at h
        exact h)
      have hs1 := Sm.out.L i (by rw [M1.out]; exact him)
      rw [e1.out.2.2.2.1] at hs1
      have BL2 := Lib.hid (BL.out.trans (hbw.mono BL.out.size))
      clear hbw hZ6 hZ7 C1 C2 i1 i2 i0 R2 R3 BW BL rz ry
      have z0 := Z6.out.cell 0
      have z1 := Z6.out.cell 1
      have z2 := Z6.out.cell 2
      have zz := Z6.out.lt
      have y0 := Z7.out.cell 0
      have y1 := Z7.out.cell 1
      have y2 := Z7.out.cell 2
      have yz := Z7.out.lt
      simp at z0 z1 z2 y0 y1 y2
      by_cases t1 : a1 = b1
      rotate_left
      · have g1 : (a1 != b1) = true := by simpa using t1
        have TN := Lib.hid t1
        clear t1
        go_wp2
        go_ret
        exact ⟨⟨false, rfl, ⟨fun h => (by cases h), fun h => absurd (show a1 = b1 by rw [← e1.out.1, ← e2.out.1]; exact (h.2 i (by rw [M1.out]; exact him)).1) TN.out⟩⟩, BC.out⟩
      subst t1
      have g1 : (a1 != a1) = false := by simp
      by_cases t1 : a2 = b2
      rotate_left
      · have g2 : (a2 != b2) = true := by simpa using t1
        have TN := Lib.hid t1
        clear t1
        go_wp2
        go_ret
        exact ⟨⟨false, rfl, ⟨fun h => (by cases h), fun h => absurd (show a2 = b2 by rw [← e1.out.2.1, ← e2.out.2.1]; exact (h.2 i (by rw [M1.out]; exact him)).2.1) TN.out⟩⟩, BC.out⟩
      subst t1
      have g2 : (a2 != a2) = false := by simp
      by_cases t1 : n1 = n2
      rotate_left
      · have g3 : ((n1 : Int) != (n2 : Int)) = true := by simp; omega
        have TN := Lib.hid t1
        clear t1
        go_wp2
        go_ret
        exact ⟨⟨false, rfl, ⟨fun h => (by cases h), fun h => absurd (show n1 = n2 by rw [← e1.out.2.2.2.1, ← e2.out.2.2.2.1]; exact (h.2 i (by rw [M1.out]; exact him)).2.2.1) TN.out⟩⟩, BC.out⟩
      subst t1
      have g3 : ((n1 : Int) != (n1 : Int)) = false := by simp
      obtain ⟨wq, rfl⟩ : ∃ wq : World, wq = wr := ⟨wr, rfl⟩
      go_wp2
      clear z0 z1 z2 zz y0 y1 y2 yz g1 g2 g3
      go_loopw [8] (fun t wr => ∃ j : Nat, j ≤ n1 ∧ t = .int .i64 j ∧ (∀ u, u < j → d.f i u = e.f i u) ∧ Below wc.heap.size wc wr) (fun t wr => n1 - (intOf t).toNat)
      case atStart => exact ⟨0, Nat.zero_le _, rfl, fun j hj => absurd hj (by omega), Below.refl _ _⟩
      case round =>
        obtain ⟨j, hj, rfl, hall, hbel⟩ := hrel
        have AJ := Lib.hid hall
        have BJ := Lib.hid hbel
        have zb := hbel.size
        have hZ6 := Z6.out.below hbel
        have hZ7 := Z7.out.below hbel
        have z2 := hZ6.cell 2
        have zz := hZ6.lt
        have y2 := hZ7.cell 2
        have yz := hZ7.lt
        simp at z2 y2
        clear hall hbel hZ6 hZ7
        by_cases hjn : j < n1
        rotate_left
        · obtain rfl : n1 = j := by omega
          have d0 : decide ((n1 : Int) < (n1 : Int)) = false := by simp
          go_wp2
          go_roundw
          case rel =>
            refine ⟨i + 1, by omega, by go_num, fun u hu => ?_, BL2.out.trans (BJ.out.mono BL2.out.size)⟩
            rcases Nat.lt_or_ge u i with h | h
            · exact AL.out u h
            · obtain rfl : u = i := by omega
              exact ⟨e1.out.1.trans e2.out.1.symm, e1.out.2.1.trans e2.out.2.1.symm, e1.out.2.2.2.1.trans e2.out.2.2.2.1.symm, fun k hk => AJ.out k (by rw [← e1.out.2.2.2.1]; exact hk)⟩
          case measure => simp [intOf]; omega
        have d0 : decide ((j : Int) < (n1 : Int)) = true := decide_eq_true (by omega)
        obtain ⟨ga, oa, hK1, hl1, hc1⟩ := HR1.out.below BJ.out (by omega)
        obtain ⟨gb, ob, hK2, hl2, hc2⟩ := HR2.out.below BJ.out (by omega)
        have c1 := hc1 j hjn 0 (by omega)
        have c2 := hc2 j hjn 0 (by omega)
        simp only [Nat.mul_one, Nat.add_zero] at c1 c2
        subst hK1 hK2
        obtain ⟨u1, hu1⟩ : ∃ u1, d.f i j = u1 := ⟨_, rfl⟩
        obtain ⟨u2, hu2⟩ : ∃ u2, e.f i j = u2 := ⟨_, rfl⟩
        rw [hu1] at c1
        rw [hu2] at c2
        have U := Lib.hid (And.intro hu1 hu2)
        clear hc1 hc2 hu1 hu2
        have i1 : (j : Int) < (n1 : Int) := by omega
        have i0 : (0 : Int) ≤ (j : Int) := by omega
        go_upto_region 12 with fail
        have f1 := fun b : BW wr => BW.cell z2 zz b
        have f2 := fun b : BW wr => BW.cell y2 yz b
        have f3 := fun b : BW wr => BW.cell c1 hl1 b
        have f4 := fun b : BW wr => BW.cell c2 hl2 b
        clear z2 y2 c1 c2 d0
        refine wp_region_quiet_bw (by kernel_rfl) (by kernel_rfl) ?_
        repeat (go_big_quiet_step (fail))
        refine wpQuiet_nil ?_
        intro _ hw'
        obtain ⟨pq, hw''⟩ := hw'
        subst hw''
        clear f1 f2 f3 f4 zz yz hl1 hl2
        have BP := Lib.hid (BJ.out.trans (pq.h.mono zb))
        generalize pq.W = v9 at *
        clear pq
        by_cases hu : u1 = u2
        · have g9 : (u1 != u2) = false := by simpa using hu
          have HU := Lib.hid hu
          clear hu
          go_wp2
          go_roundw
          case rel =>
            refine ⟨j + 1, by omega, by go_num, fun u hu => ?_, BP.out⟩
            rcases Nat.lt_or_ge u j with h | h
            · exact AJ.out u h
            · obtain rfl : u = j := by omega
              rw [U.out.1, U.out.2]
              exact HU.out
          case measure => simp [intOf]; omega
        · have g9 : (u1 != u2) = true := by simpa using hu
          have HU := Lib.hid hu
          clear hu
          go_wp2
          go_ret
          exact ⟨⟨false, rfl, ⟨fun h => (by cases h), fun h => absurd (show u1 = u2 by rw [← U.out.1, ← U.out.2]; exact (h.2 i (by rw [M1.out]; exact him)).2.2.2 j (by rw [e1.out.2.2.2.1]; exact hjn)) HU.out⟩⟩, BC.out.trans (BP.out.mono BC.out.size)⟩
end Go.Proofs.Ytibeoeooajelgaa
