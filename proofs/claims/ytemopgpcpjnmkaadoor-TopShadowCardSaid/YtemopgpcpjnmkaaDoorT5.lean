/- top: boxes that may be; boxes within one. -/
import Derived.Test.YtemopgpcpjnmkaaDoorT4
import Derived.Test.YtemopgpcpjnmkaaDoorApp
import Derived.Test.YtemopgpcpjnmkaaDoorLoad
import Derived.Test.YtemopgpcpjnmkaaDoorHeldE2
namespace Go.Proofs.YtemopgpcpjnmkaaDoor
open Go.RowKit
set_option linter.unusedVariables false
def B3.mk6 (a0 a1 a2 b0 b1 b2 : Int) : B3 := ⟨⟨a0, a1, a2⟩, ⟨b0, b1, b2⟩⟩
/-- A box that may be. -/
def B3.Ok (b : B3) : Prop := (Wi b.lo.x (-32768) 32768 ∧ Wi b.hi.x (-32768) 32768 ∧ b.lo.x ≤ b.hi.x) ∧ (Wi b.lo.y (-32768) 32768 ∧ Wi b.hi.y (-32768) 32768 ∧ b.lo.y ≤ b.hi.y) ∧ (Wi b.lo.z (-32768) 32768 ∧ Wi b.hi.z (-32768) 32768 ∧ b.lo.z ≤ b.hi.z)
def B3.In (a b : B3) : Prop := (b.lo.x ≤ a.lo.x ∧ a.hi.x ≤ b.hi.x) ∧ (b.lo.y ≤ a.lo.y ∧ a.hi.y ≤ b.hi.y) ∧ (b.lo.z ≤ a.lo.z ∧ a.hi.z ≤ b.hi.z)
theorem bin_ok {n : Int} (h : Wi n (-32768) 32768) (w : World) : Calls Tryd.prog 38 #[.int .i64 n] w fun e w' => e = .returned (.bool true) ∧ Below w.heap.size w w' :=
  (bin_any n w).mono fun e w' ⟨⟨b, he, hb⟩, bel⟩ => ⟨by rw [he, hb.2 h], bel⟩
theorem ix_sp0 (a0 b0 a1 b1 a2 b2 : Int) (W : World) : (Instr.index 110 (.agg #[.int .i64 a0, .int .i64 b0, .int .i64 a1, .int .i64 b1, .int .i64 a2, .int .i64 b2]) (.int .i64 0)).run Tryd.prog W = .ok (.agg #[.int .i64 a0, .int .i64 b0]) W := by kernel_rfl
theorem ix_sp1 (a0 b0 a1 b1 a2 b2 : Int) (W : World) : (Instr.index 110 (.agg #[.int .i64 a0, .int .i64 b0, .int .i64 a1, .int .i64 b1, .int .i64 a2, .int .i64 b2]) (.int .i64 1)).run Tryd.prog W = .ok (.agg #[.int .i64 a1, .int .i64 b1]) W := by kernel_rfl
theorem ix_sp2 (a0 b0 a1 b1 a2 b2 : Int) (W : World) : (Instr.index 110 (.agg #[.int .i64 a0, .int .i64 b0, .int .i64 a1, .int .i64 b1, .int .i64 a2, .int .i64 b2]) (.int .i64 2)).run Tryd.prog W = .ok (.agg #[.int .i64 a2, .int .i64 b2]) W := by kernel_rfl

set_option maxRecDepth 100000 in
set_option maxHeartbeats 16000000 in
theorem bcheck_ok (a0 a1 a2 b0 b1 b2 : Int) (h : (B3.mk6 a0 a1 a2 b0 b1 b2).Ok) (w : World) : Calls Tryd.prog 24 #[.agg #[.int .i64 a0, .int .i64 a1, .int .i64 a2, .int .i64 b0, .int .i64 b1, .int .i64 b2]] w fun e w' => e = .returned (.int .i64 0) ∧ Below w.heap.size w w' := by
  have H := Lib.hid h
  have HB := Lib.hid ((Below.refl w.heap.size w).alloc (Nat.le_refl _) (.cells #[.int .i64 a0, .int .i64 a1, .int .i64 a2, .int .i64 b0, .int .i64 b1, .int .i64 b2] 50))
  have P1 := Lib.hid (hasBlk_new w 50 #[.int .i64 a0, .int .i64 a1, .int .i64 a2, .int .i64 b0, .int .i64 b1, .int .i64 b2])
  clear h
  go_enter Tryd.func24, Tryd.ntmps24
  go_upto_region 1 with fail
  generalize w.alloc (.cells #[.int .i64 a0, .int .i64 a1, .int .i64 a2, .int .i64 b0, .int .i64 b1, .int .i64 b2] 50) = v0 at *
  have p1_ := P1.out.c6
  go_wp2_with fail
  refine (spans_any a0 a1 a2 b0 b1 b2 v0).mono ?_
  rintro e v1 ⟨rfl, bel⟩
  clear p1_
  have HC := Lib.hid (HB.out.trans (bel.mono HB.out.size))
  clear bel P1 HB
  go_wp2
  go_loopw [7] (fun s7 wr => ∃ k : Nat, k ≤ 3 ∧ s7 = .int .i64 k ∧ Below w.heap.size w wr) (fun s7 wr => 3 - (intOf s7).toNat)
  case atStart => exact ⟨0, Nat.zero_le _, rfl, HC.out⟩
  case round =>
    clear HC
    obtain ⟨k, hk, rfl, hbel⟩ := hrel
    have HB := Lib.hid hbel
    clear hbel
    obtain rfl | rfl | rfl | rfl : k = 0 ∨ k = 1 ∨ k = 2 ∨ k = 3 := by omega
    · have hx := ix_sp0 a0 b0 a1 b1 a2 b2
      have g1 : decide (b0 < a0) = false := decide_eq_false (by have : a0 ≤ b0 := H.out.1.2.2; omega)
      go_upto_region 4 with fail
      have S4 := Lib.hid (hasBlk_new wr 109 #[.int .i64 a0, .int .i64 b0])
      have HC := Lib.hid (HB.out.alloc HB.out.size (.cells #[.int .i64 a0, .int .i64 b0] 109))
      clear HB hx
      obtain ⟨x4, hx4⟩ : ∃ x4, x4 = wr.heap.size := ⟨_, rfl⟩
      rw [← hx4] at S4 ⊢
      clear hx4
      generalize wr.alloc (.cells #[.int .i64 a0, .int .i64 b0] 109) = u0 at *
      have s4_ := S4.out.c2
      go_wp2_with fail
      refine (bin_ok (H.out.1.1) _).mono ?_
      rintro e u1 ⟨rfl, bel⟩
      clear s4_
      have S5 := Lib.hid (S4.out.below bel)
      have HD := Lib.hid (HC.out.trans (bel.mono HC.out.size))
      clear S4 HC bel
      have s5_ := S5.out.c2
      go_wp2_with fail
      refine (bin_ok (H.out.1.2.1) _).mono ?_
      rintro e u2 ⟨rfl, bel⟩
      clear s5_
      have S6 := Lib.hid (S5.out.below bel)
      have HE := Lib.hid (HD.out.trans (bel.mono HD.out.size))
      clear S5 HD bel
      have s6_ := S6.out.c2
      go_wp2
      go_roundw
      case rel => exact ⟨1, by omega, by go_num, HE.out⟩
      case measure => simp [intOf]
    · have hx := ix_sp1 a0 b0 a1 b1 a2 b2
      have g1 : decide (b1 < a1) = false := decide_eq_false (by have : a1 ≤ b1 := H.out.2.1.2.2; omega)
      go_upto_region 4 with fail
      have S4 := Lib.hid (hasBlk_new wr 109 #[.int .i64 a1, .int .i64 b1])
      have HC := Lib.hid (HB.out.alloc HB.out.size (.cells #[.int .i64 a1, .int .i64 b1] 109))
      clear HB hx
      obtain ⟨x4, hx4⟩ : ∃ x4, x4 = wr.heap.size := ⟨_, rfl⟩
      rw [← hx4] at S4 ⊢
      clear hx4
      generalize wr.alloc (.cells #[.int .i64 a1, .int .i64 b1] 109) = u0 at *
      have s4_ := S4.out.c2
      go_wp2_with fail
      refine (bin_ok (H.out.2.1.1) _).mono ?_
      rintro e u1 ⟨rfl, bel⟩
      clear s4_
      have S5 := Lib.hid (S4.out.below bel)
      have HD := Lib.hid (HC.out.trans (bel.mono HC.out.size))
      clear S4 HC bel
      have s5_ := S5.out.c2
      go_wp2_with fail
      refine (bin_ok (H.out.2.1.2.1) _).mono ?_
      rintro e u2 ⟨rfl, bel⟩
      clear s5_
      have S6 := Lib.hid (S5.out.below bel)
      have HE := Lib.hid (HD.out.trans (bel.mono HD.out.size))
      clear S5 HD bel
      have s6_ := S6.out.c2
      go_wp2
      go_roundw
      case rel => exact ⟨2, by omega, by go_num, HE.out⟩
      case measure => simp [intOf]
    · have hx := ix_sp2 a0 b0 a1 b1 a2 b2
      have g1 : decide (b2 < a2) = false := decide_eq_false (by have : a2 ≤ b2 := H.out.2.2.2.2; omega)
      go_upto_region 4 with fail
      have S4 := Lib.hid (hasBlk_new wr 109 #[.int .i64 a2, .int .i64 b2])
      have HC := Lib.hid (HB.out.alloc HB.out.size (.cells #[.int .i64 a2, .int .i64 b2] 109))
      clear HB hx
      obtain ⟨x4, hx4⟩ : ∃ x4, x4 = wr.heap.size := ⟨_, rfl⟩
      rw [← hx4] at S4 ⊢
      clear hx4
      generalize wr.alloc (.cells #[.int .i64 a2, .int .i64 b2] 109) = u0 at *
      have s4_ := S4.out.c2
      go_wp2_with fail
      refine (bin_ok (H.out.2.2.1) _).mono ?_
      rintro e u1 ⟨rfl, bel⟩
      clear s4_
      have S5 := Lib.hid (S4.out.below bel)
      have HD := Lib.hid (HC.out.trans (bel.mono HC.out.size))
      clear S4 HC bel
      have s5_ := S5.out.c2
      go_wp2_with fail
      refine (bin_ok (H.out.2.2.2.1) _).mono ?_
      rintro e u2 ⟨rfl, bel⟩
      clear s5_
      have S6 := Lib.hid (S5.out.below bel)
      have HE := Lib.hid (HD.out.trans (bel.mono HD.out.size))
      clear S5 HD bel
      have s6_ := S6.out.c2
      go_wp2
      go_roundw
      case rel => exact ⟨3, by omega, by go_num, HE.out⟩
      case measure => simp [intOf]
    · go_wp2
      go_ret
      exact ⟨rfl, HB.out⟩
/-- Number i, number j or number k. -/
theorem wpAnyE_three {P : Program} {ops : Array Oper} {Q : Exit → Act → World → Prop} {md : Region.Mode} {S : World → Prop} {e : Nat} {i j k : Nat} {oi oj ok : Oper} {fuel : Nat} {listed : Array Bool} {a : Act} {w : World} (hi : ops[i]? = some oi) (hj : ops[j]? = some oj) (hk : ops[k]? = some ok) (hr : Region.ready md ops listed = [i, j, k])
    (h1 : ∀ K : Exit → Act → World → Prop, (∀ a' w', (i ≠ e → S w') → wpAnyE P md ops Q S e fuel (listed.setIfInBounds i true) a' w' → K .normal a' w') → wpList P ops K [oi] a w)
    (h2 : ∀ K : Exit → Act → World → Prop, (∀ a' w', (j ≠ e → S w') → wpAnyE P md ops Q S e fuel (listed.setIfInBounds j true) a' w' → K .normal a' w') → wpList P ops K [oj] a w)
    (h3 : ∀ K : Exit → Act → World → Prop, (∀ a' w', (k ≠ e → S w') → wpAnyE P md ops Q S e fuel (listed.setIfInBounds k true) a' w' → K .normal a' w') → wpList P ops K [ok] a w)
    : wpAnyE P md ops Q S e (fuel + 1) listed a w := by
  refine ⟨fun h0 => (by rw [hr] at h0; cases h0), fun q hq => ?_⟩
  rw [hr] at hq
  obtain rfl | rfl | rfl : q = i ∨ q = j ∨ q = k := by simpa using hq
  · exact wpOp_go hi (fun K hK => h1 K (fun a' w' q1 q2 => hK a' w' ⟨q1, q2⟩))
  · exact wpOp_go hj (fun K hK => h2 K (fun a' w' q1 q2 => hK a' w' ⟨q1, q2⟩))
  · exact wpOp_go hk (fun K hK => h3 K (fun a' w' q1 q2 => hK a' w' ⟨q1, q2⟩))

set_option maxRecDepth 100000 in
set_option maxHeartbeats 32000000 in
theorem inside_ok (a0 a1 a2 a3 a4 a5 b0 b1 b2 b3 b4 b5 : Int) (h : (B3.mk6 a0 a1 a2 a3 a4 a5).In (B3.mk6 b0 b1 b2 b3 b4 b5)) (w : World) : Calls Tryd.prog 25 #[.agg #[.int .i64 a0, .int .i64 a1, .int .i64 a2, .int .i64 a3, .int .i64 a4, .int .i64 a5], .agg #[.int .i64 b0, .int .i64 b1, .int .i64 b2, .int .i64 b3, .int .i64 b4, .int .i64 b5]] w fun e w' => e = .returned (.bool true) ∧ Below w.heap.size w w' := by
  have H := Lib.hid h
  have hz9 := zero_sp3
  have HB := Lib.hid (((Below.refl w.heap.size w).alloc (Nat.le_refl _) (.cells #[.int .i64 a0, .int .i64 a1, .int .i64 a2, .int .i64 a3, .int .i64 a4, .int .i64 a5] 50)).alloc (by simp) (.cells #[.int .i64 b0, .int .i64 b1, .int .i64 b2, .int .i64 b3, .int .i64 b4, .int .i64 b5] 50))
  have P1 := Lib.hid ((hasBlk_new w 50 #[.int .i64 a0, .int .i64 a1, .int .i64 a2, .int .i64 a3, .int .i64 a4, .int .i64 a5]).alloc (.cells #[.int .i64 b0, .int .i64 b1, .int .i64 b2, .int .i64 b3, .int .i64 b4, .int .i64 b5] 50))
  have P2 := Lib.hid (show HasBlk ((w.alloc (.cells #[.int .i64 a0, .int .i64 a1, .int .i64 a2, .int .i64 a3, .int .i64 a4, .int .i64 a5] 50)).alloc (.cells #[.int .i64 b0, .int .i64 b1, .int .i64 b2, .int .i64 b3, .int .i64 b4, .int .i64 b5] 50)) (w.heap.size + 1) 50 #[.int .i64 b0, .int .i64 b1, .int .i64 b2, .int .i64 b3, .int .i64 b4, .int .i64 b5] by simpa using hasBlk_new (w.alloc (.cells #[.int .i64 a0, .int .i64 a1, .int .i64 a2, .int .i64 a3, .int .i64 a4, .int .i64 a5] 50)) 50 #[.int .i64 b0, .int .i64 b1, .int .i64 b2, .int .i64 b3, .int .i64 b4, .int .i64 b5])
  clear h
  go_enter Tryd.func25, Tryd.ntmps25
  go_upto_region 1 with fail
  generalize ((w.alloc (.cells #[.int .i64 a0, .int .i64 a1, .int .i64 a2, .int .i64 a3, .int .i64 a4, .int .i64 a5] 50)).alloc (.cells #[.int .i64 b0, .int .i64 b1, .int .i64 b2, .int .i64 b3, .int .i64 b4, .int .i64 b5] 50)) = v2 at *
  go_cut [5, 6] (fun s5 s6 wx => ∃ x5 x6, s5 = .pointer (some ⟨x5, 0, none⟩) ∧ s6 = .pointer (some ⟨x6, 0, none⟩) ∧ HasBlk wx x5 110 #[.int .i64 a0, .int .i64 a3, .int .i64 a1, .int .i64 a4, .int .i64 a2, .int .i64 a5] ∧ HasBlk wx x6 110 #[.int .i64 b0, .int .i64 b3, .int .i64 b1, .int .i64 b4, .int .i64 b2, .int .i64 b5] ∧ Below w.heap.size w wx)
  case first =>
    obtain ⟨z0, hz, bd⟩ := dr0 v2
    replace P1 := mB P1 bd
    replace P2 := mB P2 bd
    replace HB := mT HB bd
    have HS := Lib.hid (Below.refl z0.heap.size z0)
    refine wp_region_E (Below z0.heap.size z0) 99 (by kernel_rfl) ?_
    rw [← hz.out]
    clear hz bd
    refine wpAnyE_takeA (i := 0) (v := .agg #[.int .i64 a0, .int .i64 a1, .int .i64 a2, .int .i64 a3, .int .i64 a4, .int .i64 a5]) rfl (by kernel_rfl) (fun _ _ _ h => h) (.inl ⟨by first | kernel_rfl | rfl, fun W hW => ?_⟩) HS.out ?_
    · have qP1 := (P1.out.below hW).c6
      go_simp
    simp only [Act.put, List.setIfInBounds_toArray]
    refine wpAnyE_takeA (i := 2) (v := .agg #[.int .i64 b0, .int .i64 b1, .int .i64 b2, .int .i64 b3, .int .i64 b4, .int .i64 b5]) rfl (by kernel_rfl) (fun _ _ _ h => h) (.inl ⟨by first | kernel_rfl | rfl, fun W hW => ?_⟩) HS.out ?_
    · have qP2 := (P2.out.below hW).c6
      go_simp
    simp only [Act.put]
    apply wpAnyE_via2 (fun x5 x6 z => Hid (Below z0.heap.size z0 z) ∧ Hid (HasBlk z x5 110 #[.int .i64 0, .int .i64 0, .int .i64 0, .int .i64 0, .int .i64 0, .int .i64 0]) ∧ Hid (HasBlk z x6 110 #[.int .i64 0, .int .i64 0, .int .i64 0, .int .i64 0, .int .i64 0, .int .i64 0]) ∧ Hid (z0.heap.size ≤ x5) ∧ Hid (z0.heap.size ≤ x6) ∧ Hid (x5 ≠ x6)) 2 #[true, true, true, true, true, true, false, false]
    · intro via
      refine wpAnyE_three (i := 1) (j := 4) (k := 5) rfl rfl rfl (by kernel_rfl) (fun KQ HK => ?_) (fun KQ HK => ?_) (fun KQ HK => ?_)
      · have KX := Lib.hid (spans_any a0 a1 a2 a3 a4 a5 z0)
        go_wp2_with fail
        refine KX.out.mono ?_
        rintro e z1 ⟨rfl, bel⟩
        replace HS := mT HS bel
        clear KX bel
        go_wp2
        refine HK _ _ (fun _ => HS.out) ?_
        clear HK
        refine wpAnyE_three (i := 3) (j := 4) (k := 5) rfl rfl rfl (by kernel_rfl) (fun KQ HK => ?_) (fun KQ HK => ?_) (fun KQ HK => ?_)
        · have KX := Lib.hid (spans_any b0 b1 b2 b3 b4 b5 z1)
          go_wp2_with fail
          refine KX.out.mono ?_
          rintro e z2 ⟨rfl, bel⟩
          replace HS := mT HS bel
          clear KX bel
          go_wp2
          refine HK _ _ (fun _ => HS.out) ?_
          clear HK
          refine wpAnyE_two (i := 4) (j := 5) rfl rfl (by kernel_rfl) (fun KQ HK => ?_) (fun KQ HK => ?_)
          · go_wp2
            obtain ⟨z3, x5, hz, hx', Zx5, bel, LZx5, hN⟩ := allocB HS 110 #[.int .i64 0, .int .i64 0, .int .i64 0, .int .i64 0, .int .i64 0, .int .i64 0]
            clear hN
            rw [← hz.out, ← hx'.out]
            replace HS := mT HS bel
            refine HK _ _ (fun _ => HS.out) ?_
            clear HK hz hx' bel
            refine wpAnyE_step (i := 5) rfl (by kernel_rfl) (fun KQ HK => ?_)
            go_wp2
            obtain ⟨z4, x6, hz, hx', Zx6, bel, LZx6, hN⟩ := allocB HS 110 #[.int .i64 0, .int .i64 0, .int .i64 0, .int .i64 0, .int .i64 0, .int .i64 0]
            have NZx6Zx5 := hN Zx5
            clear hN
            rw [← hz.out, ← hx'.out]
            replace Zx5 := mB Zx5 bel
            replace HS := mT HS bel
            refine HK _ _ (fun _ => HS.out) ?_
            clear HK hz hx' bel
            exact wpAnyE_at (by kernel_rfl) (by kernel_rfl) (by rfl) (via x5 x6 z4 ⟨HS, Zx5, Zx6, LZx5, LZx6, Lib.hid (Nat.ne_of_lt NZx6Zx5.out)⟩)
          · go_wp2
            obtain ⟨z3, x6, hz, hx', Zx6, bel, LZx6, hN⟩ := allocB HS 110 #[.int .i64 0, .int .i64 0, .int .i64 0, .int .i64 0, .int .i64 0, .int .i64 0]
            clear hN
            rw [← hz.out, ← hx'.out]
            replace HS := mT HS bel
            refine HK _ _ (fun _ => HS.out) ?_
            clear HK hz hx' bel
            refine wpAnyE_step (i := 4) rfl (by kernel_rfl) (fun KQ HK => ?_)
            go_wp2
            obtain ⟨z4, x5, hz, hx', Zx5, bel, LZx5, hN⟩ := allocB HS 110 #[.int .i64 0, .int .i64 0, .int .i64 0, .int .i64 0, .int .i64 0, .int .i64 0]
            have NZx5Zx6 := hN Zx6
            clear hN
            rw [← hz.out, ← hx'.out]
            replace Zx6 := mB Zx6 bel
            replace HS := mT HS bel
            refine HK _ _ (fun _ => HS.out) ?_
            clear HK hz hx' bel
            exact wpAnyE_at (by kernel_rfl) (by kernel_rfl) (by rfl) (via x5 x6 z4 ⟨HS, Zx5, Zx6, LZx5, LZx6, Lib.hid (Nat.ne_of_gt NZx5Zx6.out)⟩)
        · go_wp2
          obtain ⟨z2, x5, hz, hx', Zx5, bel, LZx5, hN⟩ := allocB HS 110 #[.int .i64 0, .int .i64 0, .int .i64 0, .int .i64 0, .int .i64 0, .int .i64 0]
          clear hN
          rw [← hz.out, ← hx'.out]
          replace HS := mT HS bel
          refine HK _ _ (fun _ => HS.out) ?_
          clear HK hz hx' bel
          refine wpAnyE_two (i := 3) (j := 5) rfl rfl (by kernel_rfl) (fun KQ HK => ?_) (fun KQ HK => ?_)
          · have KX := Lib.hid (spans_any b0 b1 b2 b3 b4 b5 z2)
            go_wp2_with fail
            refine KX.out.mono ?_
            rintro e z3 ⟨rfl, bel⟩
            replace Zx5 := mB Zx5 bel
            replace HS := mT HS bel
            clear KX bel
            go_wp2
            refine HK _ _ (fun _ => HS.out) ?_
            clear HK
            refine wpAnyE_step (i := 5) rfl (by kernel_rfl) (fun KQ HK => ?_)
            go_wp2
            obtain ⟨z4, x6, hz, hx', Zx6, bel, LZx6, hN⟩ := allocB HS 110 #[.int .i64 0, .int .i64 0, .int .i64 0, .int .i64 0, .int .i64 0, .int .i64 0]
            have NZx6Zx5 := hN Zx5
            clear hN
            rw [← hz.out, ← hx'.out]
            replace Zx5 := mB Zx5 bel
            replace HS := mT HS bel
            refine HK _ _ (fun _ => HS.out) ?_
            clear HK hz hx' bel
            exact wpAnyE_at (by kernel_rfl) (by kernel_rfl) (by rfl) (via x5 x6 z4 ⟨HS, Zx5, Zx6, LZx5, LZx6, Lib.hid (Nat.ne_of_lt NZx6Zx5.out)⟩)
          · go_wp2
            obtain ⟨z3, x6, hz, hx', Zx6, bel, LZx6, hN⟩ := allocB HS 110 #[.int .i64 0, .int .i64 0, .int .i64 0, .int .i64 0, .int .i64 0, .int .i64 0]
            have NZx6Zx5 := hN Zx5
            clear hN
            rw [← hz.out, ← hx'.out]
            replace Zx5 := mB Zx5 bel
            replace HS := mT HS bel
            refine HK _ _ (fun _ => HS.out) ?_
            clear HK hz hx' bel
            refine wpAnyE_step (i := 3) rfl (by kernel_rfl) (fun KQ HK => ?_)
            have KX := Lib.hid (spans_any b0 b1 b2 b3 b4 b5 z3)
            go_wp2_with fail
            refine KX.out.mono ?_
            rintro e z4 ⟨rfl, bel⟩
            replace Zx5 := mB Zx5 bel
            replace Zx6 := mB Zx6 bel
            replace HS := mT HS bel
            clear KX bel
            go_wp2
            refine HK _ _ (fun _ => HS.out) ?_
            clear HK
            exact wpAnyE_at (by kernel_rfl) (by kernel_rfl) (by rfl) (via x5 x6 z4 ⟨HS, Zx5, Zx6, LZx5, LZx6, Lib.hid (Nat.ne_of_lt NZx6Zx5.out)⟩)
        · go_wp2
          obtain ⟨z2, x6, hz, hx', Zx6, bel, LZx6, hN⟩ := allocB HS 110 #[.int .i64 0, .int .i64 0, .int .i64 0, .int .i64 0, .int .i64 0, .int .i64 0]
          clear hN
          rw [← hz.out, ← hx'.out]
          replace HS := mT HS bel
          refine HK _ _ (fun _ => HS.out) ?_
          clear HK hz hx' bel
          refine wpAnyE_two (i := 3) (j := 4) rfl rfl (by kernel_rfl) (fun KQ HK => ?_) (fun KQ HK => ?_)
          · have KX := Lib.hid (spans_any b0 b1 b2 b3 b4 b5 z2)
            go_wp2_with fail
            refine KX.out.mono ?_
            rintro e z3 ⟨rfl, bel⟩
            replace Zx6 := mB Zx6 bel
            replace HS := mT HS bel
            clear KX bel
            go_wp2
            refine HK _ _ (fun _ => HS.out) ?_
            clear HK
            refine wpAnyE_step (i := 4) rfl (by kernel_rfl) (fun KQ HK => ?_)
            go_wp2
            obtain ⟨z4, x5, hz, hx', Zx5, bel, LZx5, hN⟩ := allocB HS 110 #[.int .i64 0, .int .i64 0, .int .i64 0, .int .i64 0, .int .i64 0, .int .i64 0]
            have NZx5Zx6 := hN Zx6
            clear hN
            rw [← hz.out, ← hx'.out]
            replace Zx6 := mB Zx6 bel
            replace HS := mT HS bel
            refine HK _ _ (fun _ => HS.out) ?_
            clear HK hz hx' bel
            exact wpAnyE_at (by kernel_rfl) (by kernel_rfl) (by rfl) (via x5 x6 z4 ⟨HS, Zx5, Zx6, LZx5, LZx6, Lib.hid (Nat.ne_of_gt NZx5Zx6.out)⟩)
          · go_wp2
            obtain ⟨z3, x5, hz, hx', Zx5, bel, LZx5, hN⟩ := allocB HS 110 #[.int .i64 0, .int .i64 0, .int .i64 0, .int .i64 0, .int .i64 0, .int .i64 0]
            have NZx5Zx6 := hN Zx6
            clear hN
            rw [← hz.out, ← hx'.out]
            replace Zx6 := mB Zx6 bel
            replace HS := mT HS bel
            refine HK _ _ (fun _ => HS.out) ?_
            clear HK hz hx' bel
            refine wpAnyE_step (i := 3) rfl (by kernel_rfl) (fun KQ HK => ?_)
            have KX := Lib.hid (spans_any b0 b1 b2 b3 b4 b5 z3)
            go_wp2_with fail
            refine KX.out.mono ?_
            rintro e z4 ⟨rfl, bel⟩
            replace Zx6 := mB Zx6 bel
            replace Zx5 := mB Zx5 bel
            replace HS := mT HS bel
            clear KX bel
            go_wp2
            refine HK _ _ (fun _ => HS.out) ?_
            clear HK
            exact wpAnyE_at (by kernel_rfl) (by kernel_rfl) (by rfl) (via x5 x6 z4 ⟨HS, Zx5, Zx6, LZx5, LZx6, Lib.hid (Nat.ne_of_gt NZx5Zx6.out)⟩)
      · go_wp2
        obtain ⟨z1, x5, hz, hx', Zx5, bel, LZx5, hN⟩ := allocB HS 110 #[.int .i64 0, .int .i64 0, .int .i64 0, .int .i64 0, .int .i64 0, .int .i64 0]
        clear hN
        rw [← hz.out, ← hx'.out]
        replace HS := mT HS bel
        refine HK _ _ (fun _ => HS.out) ?_
        clear HK hz hx' bel
        refine wpAnyE_two (i := 1) (j := 5) rfl rfl (by kernel_rfl) (fun KQ HK => ?_) (fun KQ HK => ?_)
        · have KX := Lib.hid (spans_any a0 a1 a2 a3 a4 a5 z1)
          go_wp2_with fail
          refine KX.out.mono ?_
          rintro e z2 ⟨rfl, bel⟩
          replace Zx5 := mB Zx5 bel
          replace HS := mT HS bel
          clear KX bel
          go_wp2
          refine HK _ _ (fun _ => HS.out) ?_
          clear HK
          refine wpAnyE_two (i := 3) (j := 5) rfl rfl (by kernel_rfl) (fun KQ HK => ?_) (fun KQ HK => ?_)
          · have KX := Lib.hid (spans_any b0 b1 b2 b3 b4 b5 z2)
            go_wp2_with fail
            refine KX.out.mono ?_
            rintro e z3 ⟨rfl, bel⟩
            replace Zx5 := mB Zx5 bel
            replace HS := mT HS bel
            clear KX bel
            go_wp2
            refine HK _ _ (fun _ => HS.out) ?_
            clear HK
            refine wpAnyE_step (i := 5) rfl (by kernel_rfl) (fun KQ HK => ?_)
            go_wp2
            obtain ⟨z4, x6, hz, hx', Zx6, bel, LZx6, hN⟩ := allocB HS 110 #[.int .i64 0, .int .i64 0, .int .i64 0, .int .i64 0, .int .i64 0, .int .i64 0]
            have NZx6Zx5 := hN Zx5
            clear hN
            rw [← hz.out, ← hx'.out]
            replace Zx5 := mB Zx5 bel
            replace HS := mT HS bel
            refine HK _ _ (fun _ => HS.out) ?_
            clear HK hz hx' bel
            exact wpAnyE_at (by kernel_rfl) (by kernel_rfl) (by rfl) (via x5 x6 z4 ⟨HS, Zx5, Zx6, LZx5, LZx6, Lib.hid (Nat.ne_of_lt NZx6Zx5.out)⟩)
          · go_wp2
            obtain ⟨z3, x6, hz, hx', Zx6, bel, LZx6, hN⟩ := allocB HS 110 #[.int .i64 0, .int .i64 0, .int .i64 0, .int .i64 0, .int .i64 0, .int .i64 0]
            have NZx6Zx5 := hN Zx5
            clear hN
            rw [← hz.out, ← hx'.out]
            replace Zx5 := mB Zx5 bel
            replace HS := mT HS bel
            refine HK _ _ (fun _ => HS.out) ?_
            clear HK hz hx' bel
            refine wpAnyE_step (i := 3) rfl (by kernel_rfl) (fun KQ HK => ?_)
            have KX := Lib.hid (spans_any b0 b1 b2 b3 b4 b5 z3)
            go_wp2_with fail
            refine KX.out.mono ?_
            rintro e z4 ⟨rfl, bel⟩
            replace Zx5 := mB Zx5 bel
            replace Zx6 := mB Zx6 bel
            replace HS := mT HS bel
            clear KX bel
            go_wp2
            refine HK _ _ (fun _ => HS.out) ?_
            clear HK
            exact wpAnyE_at (by kernel_rfl) (by kernel_rfl) (by rfl) (via x5 x6 z4 ⟨HS, Zx5, Zx6, LZx5, LZx6, Lib.hid (Nat.ne_of_lt NZx6Zx5.out)⟩)
        · go_wp2
          obtain ⟨z2, x6, hz, hx', Zx6, bel, LZx6, hN⟩ := allocB HS 110 #[.int .i64 0, .int .i64 0, .int .i64 0, .int .i64 0, .int .i64 0, .int .i64 0]
          have NZx6Zx5 := hN Zx5
          clear hN
          rw [← hz.out, ← hx'.out]
          replace Zx5 := mB Zx5 bel
          replace HS := mT HS bel
          refine HK _ _ (fun _ => HS.out) ?_
          clear HK hz hx' bel
          refine wpAnyE_step (i := 1) rfl (by kernel_rfl) (fun KQ HK => ?_)
          have KX := Lib.hid (spans_any a0 a1 a2 a3 a4 a5 z2)
          go_wp2_with fail
          refine KX.out.mono ?_
          rintro e z3 ⟨rfl, bel⟩
          replace Zx5 := mB Zx5 bel
          replace Zx6 := mB Zx6 bel
          replace HS := mT HS bel
          clear KX bel
          go_wp2
          refine HK _ _ (fun _ => HS.out) ?_
          clear HK
          refine wpAnyE_step (i := 3) rfl (by kernel_rfl) (fun KQ HK => ?_)
          have KX := Lib.hid (spans_any b0 b1 b2 b3 b4 b5 z3)
          go_wp2_with fail
          refine KX.out.mono ?_
          rintro e z4 ⟨rfl, bel⟩
          replace Zx5 := mB Zx5 bel
          replace Zx6 := mB Zx6 bel
          replace HS := mT HS bel
          clear KX bel
          go_wp2
          refine HK _ _ (fun _ => HS.out) ?_
          clear HK
          exact wpAnyE_at (by kernel_rfl) (by kernel_rfl) (by rfl) (via x5 x6 z4 ⟨HS, Zx5, Zx6, LZx5, LZx6, Lib.hid (Nat.ne_of_lt NZx6Zx5.out)⟩)
      · go_wp2
        obtain ⟨z1, x6, hz, hx', Zx6, bel, LZx6, hN⟩ := allocB HS 110 #[.int .i64 0, .int .i64 0, .int .i64 0, .int .i64 0, .int .i64 0, .int .i64 0]
        clear hN
        rw [← hz.out, ← hx'.out]
        replace HS := mT HS bel
        refine HK _ _ (fun _ => HS.out) ?_
        clear HK hz hx' bel
        refine wpAnyE_two (i := 1) (j := 4) rfl rfl (by kernel_rfl) (fun KQ HK => ?_) (fun KQ HK => ?_)
        · have KX := Lib.hid (spans_any a0 a1 a2 a3 a4 a5 z1)
          go_wp2_with fail
          refine KX.out.mono ?_
          rintro e z2 ⟨rfl, bel⟩
          replace Zx6 := mB Zx6 bel
          replace HS := mT HS bel
          clear KX bel
          go_wp2
          refine HK _ _ (fun _ => HS.out) ?_
          clear HK
          refine wpAnyE_two (i := 3) (j := 4) rfl rfl (by kernel_rfl) (fun KQ HK => ?_) (fun KQ HK => ?_)
          · have KX := Lib.hid (spans_any b0 b1 b2 b3 b4 b5 z2)
            go_wp2_with fail
            refine KX.out.mono ?_
            rintro e z3 ⟨rfl, bel⟩
            replace Zx6 := mB Zx6 bel
            replace HS := mT HS bel
            clear KX bel
            go_wp2
            refine HK _ _ (fun _ => HS.out) ?_
            clear HK
            refine wpAnyE_step (i := 4) rfl (by kernel_rfl) (fun KQ HK => ?_)
            go_wp2
            obtain ⟨z4, x5, hz, hx', Zx5, bel, LZx5, hN⟩ := allocB HS 110 #[.int .i64 0, .int .i64 0, .int .i64 0, .int .i64 0, .int .i64 0, .int .i64 0]
            have NZx5Zx6 := hN Zx6
            clear hN
            rw [← hz.out, ← hx'.out]
            replace Zx6 := mB Zx6 bel
            replace HS := mT HS bel
            refine HK _ _ (fun _ => HS.out) ?_
            clear HK hz hx' bel
            exact wpAnyE_at (by kernel_rfl) (by kernel_rfl) (by rfl) (via x5 x6 z4 ⟨HS, Zx5, Zx6, LZx5, LZx6, Lib.hid (Nat.ne_of_gt NZx5Zx6.out)⟩)
          · go_wp2
            obtain ⟨z3, x5, hz, hx', Zx5, bel, LZx5, hN⟩ := allocB HS 110 #[.int .i64 0, .int .i64 0, .int .i64 0, .int .i64 0, .int .i64 0, .int .i64 0]
            have NZx5Zx6 := hN Zx6
            clear hN
            rw [← hz.out, ← hx'.out]
            replace Zx6 := mB Zx6 bel
            replace HS := mT HS bel
            refine HK _ _ (fun _ => HS.out) ?_
            clear HK hz hx' bel
            refine wpAnyE_step (i := 3) rfl (by kernel_rfl) (fun KQ HK => ?_)
            have KX := Lib.hid (spans_any b0 b1 b2 b3 b4 b5 z3)
            go_wp2_with fail
            refine KX.out.mono ?_
            rintro e z4 ⟨rfl, bel⟩
            replace Zx6 := mB Zx6 bel
            replace Zx5 := mB Zx5 bel
            replace HS := mT HS bel
            clear KX bel
            go_wp2
            refine HK _ _ (fun _ => HS.out) ?_
            clear HK
            exact wpAnyE_at (by kernel_rfl) (by kernel_rfl) (by rfl) (via x5 x6 z4 ⟨HS, Zx5, Zx6, LZx5, LZx6, Lib.hid (Nat.ne_of_gt NZx5Zx6.out)⟩)
        · go_wp2
          obtain ⟨z2, x5, hz, hx', Zx5, bel, LZx5, hN⟩ := allocB HS 110 #[.int .i64 0, .int .i64 0, .int .i64 0, .int .i64 0, .int .i64 0, .int .i64 0]
          have NZx5Zx6 := hN Zx6
          clear hN
          rw [← hz.out, ← hx'.out]
          replace Zx6 := mB Zx6 bel
          replace HS := mT HS bel
          refine HK _ _ (fun _ => HS.out) ?_
          clear HK hz hx' bel
          refine wpAnyE_step (i := 1) rfl (by kernel_rfl) (fun KQ HK => ?_)
          have KX := Lib.hid (spans_any a0 a1 a2 a3 a4 a5 z2)
          go_wp2_with fail
          refine KX.out.mono ?_
          rintro e z3 ⟨rfl, bel⟩
          replace Zx6 := mB Zx6 bel
          replace Zx5 := mB Zx5 bel
          replace HS := mT HS bel
          clear KX bel
          go_wp2
          refine HK _ _ (fun _ => HS.out) ?_
          clear HK
          refine wpAnyE_step (i := 3) rfl (by kernel_rfl) (fun KQ HK => ?_)
          have KX := Lib.hid (spans_any b0 b1 b2 b3 b4 b5 z3)
          go_wp2_with fail
          refine KX.out.mono ?_
          rintro e z4 ⟨rfl, bel⟩
          replace Zx6 := mB Zx6 bel
          replace Zx5 := mB Zx5 bel
          replace HS := mT HS bel
          clear KX bel
          go_wp2
          refine HK _ _ (fun _ => HS.out) ?_
          clear HK
          exact wpAnyE_at (by kernel_rfl) (by kernel_rfl) (by rfl) (via x5 x6 z4 ⟨HS, Zx5, Zx6, LZx5, LZx6, Lib.hid (Nat.ne_of_gt NZx5Zx6.out)⟩)
    rintro x5 x6 z ⟨HS, Zx5, Zx6, LZx5, LZx6, PZx5Zx6⟩
    refine wpAnyE_step (i := 6) rfl (by kernel_rfl) (fun KQ HK => ?_)
    (try go_simp)
    refine wpList_storeB rfl 110 _ _ rfl _ _ _ rfl rfl (by kernel_rfl) Zx5.out rfl (by simp [Value.oneCell']) ?_
    intro ya hSt hgr
    replace HS := gT HS hgr LZx5.out
    replace Zx5 := Lib.hid hSt
    replace Zx6 := gB Zx6 hgr PZx5Zx6.out
    clear hSt hgr
    (try simp only [Act.put])
    go_wp2
    refine HK _ _ (fun _ => HS.out) ?_
    clear HK
    refine wpAnyE_step (i := 7) rfl (by kernel_rfl) (fun KQ HK => ?_)
    (try go_simp)
    refine wpList_storeB rfl 110 _ _ rfl _ _ _ rfl rfl (by kernel_rfl) Zx6.out rfl (by simp [Value.oneCell']) ?_
    intro yb hSt hgr
    replace HS := gT HS hgr LZx6.out
    replace Zx6 := Lib.hid hSt
    replace Zx5 := gB Zx5 hgr PZx5Zx6.out.symm
    clear hSt hgr
    (try simp only [Act.put])
    go_wp2
    refine HK _ _ (fun _ => HS.out) ?_
    clear HK
    have NZx5P1 := Lib.hid (Nat.lt_of_lt_of_le P1.out.lt LZx5.out)
    have NZx5P2 := Lib.hid (Nat.lt_of_lt_of_le P2.out.lt LZx5.out)
    replace LZx5 := Lib.hid (Nat.le_trans HB.out.size LZx5.out)
    have NZx6P1 := Lib.hid (Nat.lt_of_lt_of_le P1.out.lt LZx6.out)
    have NZx6P2 := Lib.hid (Nat.lt_of_lt_of_le P2.out.lt LZx6.out)
    replace LZx6 := Lib.hid (Nat.le_trans HB.out.size LZx6.out)
    replace P1 := mB P1 HS.out
    replace P2 := mB P2 HS.out
    replace HB := mT HB HS.out
    clear HS
    refine wpAnyE_done (by kernel_rfl) ?_
    go_wp2_with fail
    go_meet
    exact ⟨x5, x6, rfl, rfl, Zx5.out, Zx6.out, HB.out⟩
  case rest =>
    obtain ⟨x5, x6, rfl, rfl, h5, h6, hB⟩ := hcut
    have Z5 := Lib.hid h5
    have Z6 := Lib.hid h6
    have HC := Lib.hid hB
    clear h5 h6 hB P1 P2 HB hz9
    go_wp2
    go_loopw [12] (fun s12 wr => ∃ k : Nat, k ≤ 3 ∧ s12 = .int .i64 k ∧ Below wc.heap.size wc wr) (fun s12 wr => 3 - (intOf s12).toNat)
    case atStart => exact ⟨0, Nat.zero_le _, rfl, Below.refl _ _⟩
    case round =>
      obtain ⟨k, hk, rfl, hbel⟩ := hrel
      have BV := Lib.hid hbel
      clear hbel
      obtain rfl | rfl | rfl | rfl : k = 0 ∨ k = 1 ∨ k = 2 ∨ k = 3 := by omega
      · have g1 : decide (a0 < b0) = false := decide_eq_false (by have : b0 ≤ a0 := H.out.1.1; omega)
        have g2 : decide (b3 < a3) = false := decide_eq_false (by have : a3 ≤ b3 := H.out.1.2; omega)
        have C5 := Lib.hid (Z5.out.below BV.out)
        have C6 := Lib.hid (Z6.out.below BV.out)
        have hbz := BV.out.size
        go_upto_region 5 with fail
        have e1 := fun b : BW wr => BW.cell (C5.out.at 0 rfl) C5.out.lt b
        have e2 := fun b : BW wr => BW.cell (C5.out.at 1 rfl) C5.out.lt b
        have e3 := fun b : BW wr => BW.cell (C6.out.at 0 rfl) C6.out.lt b
        have e4 := fun b : BW wr => BW.cell (C6.out.at 1 rfl) C6.out.lt b
        refine wp_region_quiet_bw (by kernel_rfl) (by kernel_rfl) ?_
        repeat (go_big_quiet_step (fail))
        refine wpQuiet_nil ?_
        intro _ hw'
        obtain ⟨pq, hw''⟩ := hw'
        subst hw''
        clear e1 e2 e3 e4
        have BN := Lib.hid (BV.out.trans (pq.h.mono hbz))
        generalize pq.W = u1 at *
        clear pq
        go_wp2
        go_roundw
        case rel => exact ⟨1, by omega, by go_num, BN.out⟩
        case measure => simp [intOf]
      · have g1 : decide (a1 < b1) = false := decide_eq_false (by have : b1 ≤ a1 := H.out.2.1.1; omega)
        have g2 : decide (b4 < a4) = false := decide_eq_false (by have : a4 ≤ b4 := H.out.2.1.2; omega)
        have C5 := Lib.hid (Z5.out.below BV.out)
        have C6 := Lib.hid (Z6.out.below BV.out)
        have hbz := BV.out.size
        go_upto_region 5 with fail
        have e1 := fun b : BW wr => BW.cell (C5.out.at 2 rfl) C5.out.lt b
        have e2 := fun b : BW wr => BW.cell (C5.out.at 3 rfl) C5.out.lt b
        have e3 := fun b : BW wr => BW.cell (C6.out.at 2 rfl) C6.out.lt b
        have e4 := fun b : BW wr => BW.cell (C6.out.at 3 rfl) C6.out.lt b
        refine wp_region_quiet_bw (by kernel_rfl) (by kernel_rfl) ?_
        repeat (go_big_quiet_step (fail))
        refine wpQuiet_nil ?_
        intro _ hw'
        obtain ⟨pq, hw''⟩ := hw'
        subst hw''
        clear e1 e2 e3 e4
        have BN := Lib.hid (BV.out.trans (pq.h.mono hbz))
        generalize pq.W = u1 at *
        clear pq
        go_wp2
        go_roundw
        case rel => exact ⟨2, by omega, by go_num, BN.out⟩
        case measure => simp [intOf]
      · have g1 : decide (a2 < b2) = false := decide_eq_false (by have : b2 ≤ a2 := H.out.2.2.1; omega)
        have g2 : decide (b5 < a5) = false := decide_eq_false (by have : a5 ≤ b5 := H.out.2.2.2; omega)
        have C5 := Lib.hid (Z5.out.below BV.out)
        have C6 := Lib.hid (Z6.out.below BV.out)
        have hbz := BV.out.size
        go_upto_region 5 with fail
        have e1 := fun b : BW wr => BW.cell (C5.out.at 4 rfl) C5.out.lt b
        have e2 := fun b : BW wr => BW.cell (C5.out.at 5 rfl) C5.out.lt b
        have e3 := fun b : BW wr => BW.cell (C6.out.at 4 rfl) C6.out.lt b
        have e4 := fun b : BW wr => BW.cell (C6.out.at 5 rfl) C6.out.lt b
        refine wp_region_quiet_bw (by kernel_rfl) (by kernel_rfl) ?_
        repeat (go_big_quiet_step (fail))
        refine wpQuiet_nil ?_
        intro _ hw'
        obtain ⟨pq, hw''⟩ := hw'
        subst hw''
        clear e1 e2 e3 e4
        have BN := Lib.hid (BV.out.trans (pq.h.mono hbz))
        generalize pq.W = u1 at *
        clear pq
        go_wp2
        go_roundw
        case rel => exact ⟨3, by omega, by go_num, BN.out⟩
        case measure => simp [intOf]
      · go_wp2
        go_ret
        exact ⟨rfl, HC.out.trans (BV.out.mono HC.out.size)⟩
end Go.Proofs.YtemopgpcpjnmkaaDoor
