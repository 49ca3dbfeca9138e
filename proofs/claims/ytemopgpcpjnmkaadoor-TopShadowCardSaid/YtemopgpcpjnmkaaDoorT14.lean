/- top: where a side meets the near plane. -/
import Derived.Test.YtemopgpcpjnmkaaDoorT13
import Derived.Test.YtemopgpcpjnmkaaDoorOwnL
import Derived.Test.YtemopgpcpjnmkaaDoorLoad
namespace Go.Proofs.YtemopgpcpjnmkaaDoor
open Go.RowKit
set_option linter.unusedVariables false
def P5.cell (a : P5) : Nat → Value
  | 0 => .int .i64 a.p.x
  | 1 => .int .i64 a.p.y
  | 2 => .int .i64 a.p.z
  | 3 => .int .i64 a.u
  | _ => .int .i64 a.v
/-- Where the side from a to b meets the near plane. -/
def P5.cut (n : Int) (a b : P5) : P5 := ⟨⟨cutn a.p.x b.p.x n a.p.z b.p.z, cutn a.p.y b.p.y n a.p.z b.p.z, n⟩, cutn a.u b.u n a.p.z b.p.z, cutn a.v b.v n a.p.z b.p.z⟩
theorem P5.cut_ok {n : Int} {a b : P5} (hn : Wi n 256 4096) (ha : a.Ok) (hb : b.Ok) (h1 : a.p.z < n) (h2 : n ≤ b.p.z) : (P5.cut n a b).Ok :=
  ⟨⟨cutn_in h1 h2 ha.1.1 hb.1.1, cutn_in h1 h2 ha.1.2.1 hb.1.2.1, by unfold Wi at *; exact ⟨by show -24576 ≤ n; omega, by show n ≤ 24576; omega⟩⟩, cutn_in h1 h2 ha.2.1 hb.2.1, cutn_in h1 h2 ha.2.2 hb.2.2⟩

set_option maxRecDepth 100000 in
set_option maxHeartbeats 16000000 in
theorem asked_ok (near : Int) (hn : Wi near 256 4096) (A : Option Addr) (n c : Nat) (hk : n ≤ 1000000) (l : Nat → P5) (hl : ∀ i, i < n → (l i).Ok) (w : World) (hR : Row w A n 5 (fun i j => (l i).cell j)) : Calls Tryd.prog 70 #[.int .i64 near, .slice A n c] w fun e w' => e = .returned (.int .i64 0) ∧ Below w.heap.size w w' := by
  have HR := Lib.hid hR
  have HL := Lib.hid hl
  have HN := Lib.hid hn
  clear hR hl hn
  have g1 : decide (near < 256) = false := decide_eq_false (by have := HN.out; unfold Wi at this; omega)
  have g2 : decide (4096 < near) = false := decide_eq_false (by have := HN.out; unfold Wi at this; omega)
  go_enter Tryd.func70, Tryd.ntmps70
  go_wp2
  clear g1 g2
  go_loopw [16] (fun s wr => ∃ k : Nat, k ≤ n ∧ s = .int .i64 k ∧ Below w.heap.size w wr) (fun s wr => n - (intOf s).toNat)
  case atStart => exact ⟨0, Nat.zero_le _, rfl, Below.refl _ _⟩
  case round =>
    obtain ⟨k, hk, rfl, hbel⟩ := hrel
    have HB := Lib.hid hbel
    clear hbel
    by_cases hkn : k < n
    rotate_left
    · obtain rfl : n = k := by omega
      have d0 : decide ((n : Int) < (n : Int)) = false := by simp
      go_wp2
      go_ret
      exact ⟨rfl, HB.out⟩
    have d0 : decide ((k : Int) < (n : Int)) = true := decide_eq_true (by omega)
    obtain ⟨g, o, rfl, hg, hc⟩ := HR.out.below HB.out (by omega)
    have c0 := hc k hkn 0 (by omega)
    have c1 := hc k hkn 1 (by omega)
    have c2 := hc k hkn 2 (by omega)
    have c3 := hc k hkn 3 (by omega)
    have c4 := hc k hkn 4 (by omega)
    have hu' := HL.out k hkn
    obtain ⟨u, hu⟩ : ∃ u, l k = u := ⟨_, rfl⟩
    dsimp only at c0 c1 c2 c3 c4
    rw [hu] at c0 c1 c2 c3 c4 hu'
    simp only [P5.cell, Nat.add_zero] at c0 c1 c2 c3 c4
    have HU := Lib.hid hu'
    clear hc hu hu'
    have i1 : (k : Int) < (n : Int) := by omega
    have i2 : ¬ ((n : Int) ≤ (k : Int)) := by omega
    have i0 : (0 : Int) ≤ (k : Int) := by omega
    go_upto_region 6 with fail
    obtain ⟨u0, x6, hz, hx', S6, bA⟩ := laidB wr 124 #[.int .i64 u.p.x, .int .i64 u.p.y, .int .i64 u.p.z, .int .i64 u.u, .int .i64 u.v]
    rw [← hz.out, ← hx'.out]
    replace HB := mT HB bA
    clear hz hx' bA
    clear c0 c1 c2 c3 c4 hg
    have s6_ := S6.out.c5
    have KX := Lib.hid (pcheck_ok u HU.out u0)
    go_wp2_with fail
    refine KX.out.mono ?_
    rintro e u1 ⟨rfl, bel⟩
    clear KX
    clear s6_
    replace S6 := mB S6 bel
    replace HB := mT HB bel
    clear bel
    go_wp2
    go_roundw
    case rel => exact ⟨k + 1, by omega, by go_num, HB.out⟩
    case measure => simp [intOf]; omega
theorem asked2 (near : Int) (hn : Wi near 256 4096) (g : Nat) (t : TypeId) (a b : P5) (ha : a.Ok) (hb : b.Ok) (w : World) (hB : HasBlk w g t #[.int .i64 a.p.x, .int .i64 a.p.y, .int .i64 a.p.z, .int .i64 a.u, .int .i64 a.v, .int .i64 b.p.x, .int .i64 b.p.y, .int .i64 b.p.z, .int .i64 b.u, .int .i64 b.v]) :
    Calls Tryd.prog 70 #[.int .i64 near, .slice (some ⟨g, 0, none⟩) 2 2] w fun e w' => e = .returned (.int .i64 0) ∧ Below w.heap.size w w' := by
  refine asked_ok near hn (some ⟨g, 0, none⟩) 2 2 (by omega) (fun i => if i = 0 then a else b) (fun i hi => ?_) w (Row.of_blk (t := t) hB fun i hi j hj => ?_)
  · obtain rfl | rfl : i = 0 ∨ i = 1 := by omega
    · exact ha
    · exact hb
  · obtain rfl | rfl : i = 0 ∨ i = 1 := by omega
    all_goals (obtain rfl | rfl | rfl | rfl | rfl : j = 0 ∨ j = 1 ∨ j = 2 ∨ j = 3 ∨ j = 4 := by omega)
    all_goals rfl
theorem asked3 (near : Int) (hn : Wi near 256 4096) (g : Nat) (t : TypeId) (a b c : P5) (ha : a.Ok) (hb : b.Ok) (hc : c.Ok) (w : World) (hB : HasBlk w g t #[.int .i64 a.p.x, .int .i64 a.p.y, .int .i64 a.p.z, .int .i64 a.u, .int .i64 a.v, .int .i64 b.p.x, .int .i64 b.p.y, .int .i64 b.p.z, .int .i64 b.u, .int .i64 b.v, .int .i64 c.p.x, .int .i64 c.p.y, .int .i64 c.p.z, .int .i64 c.u, .int .i64 c.v]) :
    Calls Tryd.prog 70 #[.int .i64 near, .slice (some ⟨g, 0, none⟩) 3 3] w fun e w' => e = .returned (.int .i64 0) ∧ Below w.heap.size w w' := by
  refine asked_ok near hn (some ⟨g, 0, none⟩) 3 3 (by omega) (fun i => if i = 0 then a else if i = 1 then b else c) (fun i hi => ?_) w (Row.of_blk (t := t) hB fun i hi j hj => ?_)
  · obtain rfl | rfl | rfl : i = 0 ∨ i = 1 ∨ i = 2 := by omega
    · exact ha
    · exact hb
    · exact hc
  · obtain rfl | rfl | rfl : i = 0 ∨ i = 1 ∨ i = 2 := by omega
    all_goals (obtain rfl | rfl | rfl | rfl | rfl : j = 0 ∨ j = 1 ∨ j = 2 ∨ j = 3 ∨ j = 4 := by omega)
    all_goals rfl

set_option maxRecDepth 100000 in
set_option maxHeartbeats 8000000 in
theorem cut1_any (a : P5) (w : World) : Calls Tryd.prog 80 #[.agg #[.int .i64 a.p.x, .int .i64 a.p.y, .int .i64 a.p.z, .int .i64 a.u, .int .i64 a.v]] w fun e w' => e = .returned (.agg #[.int .i64 a.p.x, .int .i64 a.p.y, .int .i64 a.u, .int .i64 a.v]) ∧ Below w.heap.size w w' := by
  obtain ⟨v0, hv0, P1, P2, HB⟩ := lay2 w 124 #[.int .i64 a.p.x, .int .i64 a.p.y, .int .i64 a.p.z, .int .i64 a.u, .int .i64 a.v] 163 #[.int .i64 0, .int .i64 0, .int .i64 0, .int .i64 0]
  go_enter Tryd.func80, Tryd.ntmps80
  go_upto_region 1 with fail
  rw [← hv0.out]
  clear hv0
  have p1_ := P1.out.c5
  have p2_ := P2.out.f4
  go_wp2
  refine bodyPost_ret (v := .agg #[.int .i64 a.p.x, .int .i64 a.p.y, .int .i64 a.u, .int .i64 a.v]) (by simp [results, Tryd.results80, go_sem, *]) rfl ⟨rfl, ?_⟩
  repeat (refine Below.setCell ?_ (by first | omega | (simp; done) | (simp; omega)) _)
  exact HB.out

set_option maxRecDepth 100000 in
set_option maxHeartbeats 32000000 in
theorem cut_ok (n : Int) (a b : P5) (hn : Wi n 256 4096) (ha : a.Ok) (hb : b.Ok) (h1 : a.p.z < n) (h2 : n ≤ b.p.z) (w : World) : Calls Tryd.prog 71 #[.int .i64 n, .agg #[.int .i64 a.p.x, .int .i64 a.p.y, .int .i64 a.p.z, .int .i64 a.u, .int .i64 a.v], .agg #[.int .i64 b.p.x, .int .i64 b.p.y, .int .i64 b.p.z, .int .i64 b.u, .int .i64 b.v]] w fun e w' => e = .returned (.tuple #[.agg #[.int .i64 ((P5.cut n a b).p.x), .int .i64 ((P5.cut n a b).p.y), .int .i64 ((P5.cut n a b).p.z), .int .i64 ((P5.cut n a b).u), .int .i64 ((P5.cut n a b).v)], .int .i64 0]) ∧ Below w.heap.size w w' := by
  have HN := Lib.hid hn
  have HA := Lib.hid ha
  have HBB := Lib.hid hb
  have H1 := Lib.hid h1
  have H2 := Lib.hid h2
  clear hn ha hb h1 h2
  obtain ⟨v0, hv0, BA, BB, BR, HB⟩ := lay3 w 124 #[.int .i64 a.p.x, .int .i64 a.p.y, .int .i64 a.p.z, .int .i64 a.u, .int .i64 a.v] 124 #[.int .i64 b.p.x, .int .i64 b.p.y, .int .i64 b.p.z, .int .i64 b.u, .int .i64 b.v] 124 #[.int .i64 0, .int .i64 0, .int .i64 0, .int .i64 0, .int .i64 0]
  go_enter Tryd.func71, Tryd.ntmps71
  go_upto_region 1 with fail
  rw [← hv0.out]
  clear hv0
  have ba_ := BA.out.c5
  have bb_ := BB.out.c5
  go_wp2_with fail
  clear ba_
  clear bb_
  refine (asked2 n HN.out v0.heap.size 124 a b HA.out HBB.out (v0.alloc (.cells #[.int .i64 a.p.x, .int .i64 a.p.y, .int .i64 a.p.z, .int .i64 a.u, .int .i64 a.v, .int .i64 b.p.x, .int .i64 b.p.y, .int .i64 b.p.z, .int .i64 b.u, .int .i64 b.v] 124)) (hasBlk_new v0 124 #[.int .i64 a.p.x, .int .i64 a.p.y, .int .i64 a.p.z, .int .i64 a.u, .int .i64 a.v, .int .i64 b.p.x, .int .i64 b.p.y, .int .i64 b.p.z, .int .i64 b.u, .int .i64 b.v])).mono ?_
  rintro e v1 ⟨rfl, bel⟩
  have bel2 := ((Below.refl v0.heap.size v0).alloc (Nat.le_refl _) (.cells #[.int .i64 a.p.x, .int .i64 a.p.y, .int .i64 a.p.z, .int .i64 a.u, .int .i64 a.v, .int .i64 b.p.x, .int .i64 b.p.y, .int .i64 b.p.z, .int .i64 b.u, .int .i64 b.v] 124)).trans (bel.mono (by simp))
  clear bel
  replace BA := mB BA bel2
  replace BB := mB BB bel2
  replace BR := mB BR bel2
  replace HB := mT HB bel2
  clear bel2
  have g1 : decide (n ≤ a.p.z) = false := decide_eq_false (by have := H1.out; omega)
  have g2 : decide (b.p.z < n) = false := decide_eq_false (by have := H2.out; omega)
  have ba_ := BA.out.c5
  have bb_ := BB.out.c5
  go_upto_region 7 with fail
  clear ba_
  clear bb_
  clear g1 g2
  go_cut [10, 11] (fun s10 s11 wx => ∃ x y, s10 = .pointer (some ⟨x, 0, none⟩) ∧ s11 = .pointer (some ⟨y, 0, none⟩) ∧ (HasBlk wx x 163 #[.int .i64 a.p.x, .int .i64 a.p.y, .int .i64 a.u, .int .i64 a.v] ∧ HasBlk wx y 163 #[.int .i64 b.p.x, .int .i64 b.p.y, .int .i64 b.u, .int .i64 b.v] ∧ w.heap.size ≤ x ∧ x ≠ y ∧ w.heap.size + 2 < x) ∧ HasBlk wx w.heap.size 124 #[.int .i64 a.p.x, .int .i64 a.p.y, .int .i64 a.p.z, .int .i64 a.u, .int .i64 a.v] ∧ HasBlk wx (w.heap.size + 1) 124 #[.int .i64 b.p.x, .int .i64 b.p.y, .int .i64 b.p.z, .int .i64 b.u, .int .i64 b.v] ∧ HasBlk wx (w.heap.size + 1 + 1) 124 #[.int .i64 0, .int .i64 0, .int .i64 0, .int .i64 0, .int .i64 0] ∧ Below w.heap.size w wx)
  case first =>
    obtain ⟨z0, hz, bd⟩ := dr0 v1
    replace BA := mB BA bd
    replace BB := mB BB bd
    replace BR := mB BR bd
    replace HB := mT HB bd
    have HS := Lib.hid (Below.refl z0.heap.size z0)
    refine wp_region_E (Below z0.heap.size z0) 99 (by kernel_rfl) ?_
    rw [← hz.out]
    clear hz bd
    refine wpAnyE_takeA (i := 0) (v := .func (.func 80) #[] #[]) rfl (by kernel_rfl) (fun _ _ _ h => h) (.inl ⟨by first | kernel_rfl | rfl, fun W hW => by go_simp⟩) HS.out ?_
    simp only [Act.put, List.setIfInBounds_toArray]
    refine wpAnyE_takeA (i := 1) (v := .agg #[.int .i64 a.p.x, .int .i64 a.p.y, .int .i64 a.p.z, .int .i64 a.u, .int .i64 a.v]) rfl (by kernel_rfl) (fun _ _ _ h => h) (.inl ⟨by first | kernel_rfl | rfl, fun W hW => ?_⟩) HS.out ?_
    · have qBA := (BA.out.below hW).c5
      go_simp
    simp only [Act.put]
    refine wpAnyE_takeA (i := 3) (v := .func (.func 80) #[] #[]) rfl (by kernel_rfl) (fun _ _ _ h => h) (.inl ⟨by first | kernel_rfl | rfl, fun W hW => by go_simp⟩) HS.out ?_
    simp only [Act.put]
    refine wpAnyE_takeA (i := 4) (v := .agg #[.int .i64 b.p.x, .int .i64 b.p.y, .int .i64 b.p.z, .int .i64 b.u, .int .i64 b.v]) rfl (by kernel_rfl) (fun _ _ _ h => h) (.inl ⟨by first | kernel_rfl | rfl, fun W hW => ?_⟩) HS.out ?_
    · have qBB := (BB.out.below hW).c5
      go_simp
    simp only [Act.put]
    apply wpAnyE_via2 (fun x y z => Hid (Below z0.heap.size z0 z) ∧ Hid (HasBlk z x 163 #[.int .i64 0, .int .i64 0, .int .i64 0, .int .i64 0]) ∧ Hid (HasBlk z y 163 #[.int .i64 0, .int .i64 0, .int .i64 0, .int .i64 0]) ∧ Hid (z0.heap.size ≤ x) ∧ Hid (z0.heap.size ≤ y) ∧ Hid (x ≠ y)) 2 #[true, true, true, true, true, true, true, true, false, false]
    · intro via
      refine wpAnyE_three (i := 2) (j := 6) (k := 7) rfl rfl rfl (by kernel_rfl) (fun KQ HK => ?_) (fun KQ HK => ?_) (fun KQ HK => ?_)
      · have KX := Lib.hid (cut1_any a z0)
        go_wp2_with fail
        refine KX.out.mono ?_
        rintro e z1 ⟨rfl, bel⟩
        replace HS := mT HS bel
        clear KX bel
        go_wp2
        refine HK _ _ (fun _ => HS.out) ?_
        clear HK
        refine wpAnyE_three (i := 5) (j := 6) (k := 7) rfl rfl rfl (by kernel_rfl) (fun KQ HK => ?_) (fun KQ HK => ?_) (fun KQ HK => ?_)
        · have KX := Lib.hid (cut1_any b z1)
          go_wp2_with fail
          refine KX.out.mono ?_
          rintro e z2 ⟨rfl, bel⟩
          replace HS := mT HS bel
          clear KX bel
          go_wp2
          refine HK _ _ (fun _ => HS.out) ?_
          clear HK
          refine wpAnyE_two (i := 6) (j := 7) rfl rfl (by kernel_rfl) (fun KQ HK => ?_) (fun KQ HK => ?_)
          · go_wp2
            obtain ⟨z3, x, hz, hx', X, bel, LX, hN⟩ := allocB HS 163 #[.int .i64 0, .int .i64 0, .int .i64 0, .int .i64 0]
            clear hN
            rw [← hz.out, ← hx'.out]
            replace HS := mT HS bel
            refine HK _ _ (fun _ => HS.out) ?_
            clear HK hz hx' bel
            refine wpAnyE_step (i := 7) rfl (by kernel_rfl) (fun KQ HK => ?_)
            go_wp2
            obtain ⟨z4, y, hz, hx', Y, bel, LY, hN⟩ := allocB HS 163 #[.int .i64 0, .int .i64 0, .int .i64 0, .int .i64 0]
            have NYX := hN X
            clear hN
            rw [← hz.out, ← hx'.out]
            replace X := mB X bel
            replace HS := mT HS bel
            refine HK _ _ (fun _ => HS.out) ?_
            clear HK hz hx' bel
            exact wpAnyE_at (by kernel_rfl) (by kernel_rfl) (by rfl) (via x y z4 ⟨HS, X, Y, LX, LY, Lib.hid (Nat.ne_of_lt NYX.out)⟩)
          · go_wp2
            obtain ⟨z3, y, hz, hx', Y, bel, LY, hN⟩ := allocB HS 163 #[.int .i64 0, .int .i64 0, .int .i64 0, .int .i64 0]
            clear hN
            rw [← hz.out, ← hx'.out]
            replace HS := mT HS bel
            refine HK _ _ (fun _ => HS.out) ?_
            clear HK hz hx' bel
            refine wpAnyE_step (i := 6) rfl (by kernel_rfl) (fun KQ HK => ?_)
            go_wp2
            obtain ⟨z4, x, hz, hx', X, bel, LX, hN⟩ := allocB HS 163 #[.int .i64 0, .int .i64 0, .int .i64 0, .int .i64 0]
            have NXY := hN Y
            clear hN
            rw [← hz.out, ← hx'.out]
            replace Y := mB Y bel
            replace HS := mT HS bel
            refine HK _ _ (fun _ => HS.out) ?_
            clear HK hz hx' bel
            exact wpAnyE_at (by kernel_rfl) (by kernel_rfl) (by rfl) (via x y z4 ⟨HS, X, Y, LX, LY, Lib.hid (Nat.ne_of_gt NXY.out)⟩)
        · go_wp2
          obtain ⟨z2, x, hz, hx', X, bel, LX, hN⟩ := allocB HS 163 #[.int .i64 0, .int .i64 0, .int .i64 0, .int .i64 0]
          clear hN
          rw [← hz.out, ← hx'.out]
          replace HS := mT HS bel
          refine HK _ _ (fun _ => HS.out) ?_
          clear HK hz hx' bel
          refine wpAnyE_two (i := 5) (j := 7) rfl rfl (by kernel_rfl) (fun KQ HK => ?_) (fun KQ HK => ?_)
          · have KX := Lib.hid (cut1_any b z2)
            go_wp2_with fail
            refine KX.out.mono ?_
            rintro e z3 ⟨rfl, bel⟩
            replace X := mB X bel
            replace HS := mT HS bel
            clear KX bel
            go_wp2
            refine HK _ _ (fun _ => HS.out) ?_
            clear HK
            refine wpAnyE_step (i := 7) rfl (by kernel_rfl) (fun KQ HK => ?_)
            go_wp2
            obtain ⟨z4, y, hz, hx', Y, bel, LY, hN⟩ := allocB HS 163 #[.int .i64 0, .int .i64 0, .int .i64 0, .int .i64 0]
            have NYX := hN X
            clear hN
            rw [← hz.out, ← hx'.out]
            replace X := mB X bel
            replace HS := mT HS bel
            refine HK _ _ (fun _ => HS.out) ?_
            clear HK hz hx' bel
            exact wpAnyE_at (by kernel_rfl) (by kernel_rfl) (by rfl) (via x y z4 ⟨HS, X, Y, LX, LY, Lib.hid (Nat.ne_of_lt NYX.out)⟩)
          · go_wp2
            obtain ⟨z3, y, hz, hx', Y, bel, LY, hN⟩ := allocB HS 163 #[.int .i64 0, .int .i64 0, .int .i64 0, .int .i64 0]
            have NYX := hN X
            clear hN
            rw [← hz.out, ← hx'.out]
            replace X := mB X bel
            replace HS := mT HS bel
            refine HK _ _ (fun _ => HS.out) ?_
            clear HK hz hx' bel
            refine wpAnyE_step (i := 5) rfl (by kernel_rfl) (fun KQ HK => ?_)
            have KX := Lib.hid (cut1_any b z3)
            go_wp2_with fail
            refine KX.out.mono ?_
            rintro e z4 ⟨rfl, bel⟩
            replace X := mB X bel
            replace Y := mB Y bel
            replace HS := mT HS bel
            clear KX bel
            go_wp2
            refine HK _ _ (fun _ => HS.out) ?_
            clear HK
            exact wpAnyE_at (by kernel_rfl) (by kernel_rfl) (by rfl) (via x y z4 ⟨HS, X, Y, LX, LY, Lib.hid (Nat.ne_of_lt NYX.out)⟩)
        · go_wp2
          obtain ⟨z2, y, hz, hx', Y, bel, LY, hN⟩ := allocB HS 163 #[.int .i64 0, .int .i64 0, .int .i64 0, .int .i64 0]
          clear hN
          rw [← hz.out, ← hx'.out]
          replace HS := mT HS bel
          refine HK _ _ (fun _ => HS.out) ?_
          clear HK hz hx' bel
          refine wpAnyE_two (i := 5) (j := 6) rfl rfl (by kernel_rfl) (fun KQ HK => ?_) (fun KQ HK => ?_)
          · have KX := Lib.hid (cut1_any b z2)
            go_wp2_with fail
            refine KX.out.mono ?_
            rintro e z3 ⟨rfl, bel⟩
            replace Y := mB Y bel
            replace HS := mT HS bel
            clear KX bel
            go_wp2
            refine HK _ _ (fun _ => HS.out) ?_
            clear HK
            refine wpAnyE_step (i := 6) rfl (by kernel_rfl) (fun KQ HK => ?_)
            go_wp2
            obtain ⟨z4, x, hz, hx', X, bel, LX, hN⟩ := allocB HS 163 #[.int .i64 0, .int .i64 0, .int .i64 0, .int .i64 0]
            have NXY := hN Y
            clear hN
            rw [← hz.out, ← hx'.out]
            replace Y := mB Y bel
            replace HS := mT HS bel
            refine HK _ _ (fun _ => HS.out) ?_
            clear HK hz hx' bel
            exact wpAnyE_at (by kernel_rfl) (by kernel_rfl) (by rfl) (via x y z4 ⟨HS, X, Y, LX, LY, Lib.hid (Nat.ne_of_gt NXY.out)⟩)
          · go_wp2
            obtain ⟨z3, x, hz, hx', X, bel, LX, hN⟩ := allocB HS 163 #[.int .i64 0, .int .i64 0, .int .i64 0, .int .i64 0]
            have NXY := hN Y
            clear hN
            rw [← hz.out, ← hx'.out]
            replace Y := mB Y bel
            replace HS := mT HS bel
            refine HK _ _ (fun _ => HS.out) ?_
            clear HK hz hx' bel
            refine wpAnyE_step (i := 5) rfl (by kernel_rfl) (fun KQ HK => ?_)
            have KX := Lib.hid (cut1_any b z3)
            go_wp2_with fail
            refine KX.out.mono ?_
            rintro e z4 ⟨rfl, bel⟩
            replace Y := mB Y bel
            replace X := mB X bel
            replace HS := mT HS bel
            clear KX bel
            go_wp2
            refine HK _ _ (fun _ => HS.out) ?_
            clear HK
            exact wpAnyE_at (by kernel_rfl) (by kernel_rfl) (by rfl) (via x y z4 ⟨HS, X, Y, LX, LY, Lib.hid (Nat.ne_of_gt NXY.out)⟩)
      · go_wp2
        obtain ⟨z1, x, hz, hx', X, bel, LX, hN⟩ := allocB HS 163 #[.int .i64 0, .int .i64 0, .int .i64 0, .int .i64 0]
        clear hN
        rw [← hz.out, ← hx'.out]
        replace HS := mT HS bel
        refine HK _ _ (fun _ => HS.out) ?_
        clear HK hz hx' bel
        refine wpAnyE_two (i := 2) (j := 7) rfl rfl (by kernel_rfl) (fun KQ HK => ?_) (fun KQ HK => ?_)
        · have KX := Lib.hid (cut1_any a z1)
          go_wp2_with fail
          refine KX.out.mono ?_
          rintro e z2 ⟨rfl, bel⟩
          replace X := mB X bel
          replace HS := mT HS bel
          clear KX bel
          go_wp2
          refine HK _ _ (fun _ => HS.out) ?_
          clear HK
          refine wpAnyE_two (i := 5) (j := 7) rfl rfl (by kernel_rfl) (fun KQ HK => ?_) (fun KQ HK => ?_)
          · have KX := Lib.hid (cut1_any b z2)
            go_wp2_with fail
            refine KX.out.mono ?_
            rintro e z3 ⟨rfl, bel⟩
            replace X := mB X bel
            replace HS := mT HS bel
            clear KX bel
            go_wp2
            refine HK _ _ (fun _ => HS.out) ?_
            clear HK
            refine wpAnyE_step (i := 7) rfl (by kernel_rfl) (fun KQ HK => ?_)
            go_wp2
            obtain ⟨z4, y, hz, hx', Y, bel, LY, hN⟩ := allocB HS 163 #[.int .i64 0, .int .i64 0, .int .i64 0, .int .i64 0]
            have NYX := hN X
            clear hN
            rw [← hz.out, ← hx'.out]
            replace X := mB X bel
            replace HS := mT HS bel
            refine HK _ _ (fun _ => HS.out) ?_
            clear HK hz hx' bel
            exact wpAnyE_at (by kernel_rfl) (by kernel_rfl) (by rfl) (via x y z4 ⟨HS, X, Y, LX, LY, Lib.hid (Nat.ne_of_lt NYX.out)⟩)
          · go_wp2
            obtain ⟨z3, y, hz, hx', Y, bel, LY, hN⟩ := allocB HS 163 #[.int .i64 0, .int .i64 0, .int .i64 0, .int .i64 0]
            have NYX := hN X
            clear hN
            rw [← hz.out, ← hx'.out]
            replace X := mB X bel
            replace HS := mT HS bel
            refine HK _ _ (fun _ => HS.out) ?_
            clear HK hz hx' bel
            refine wpAnyE_step (i := 5) rfl (by kernel_rfl) (fun KQ HK => ?_)
            have KX := Lib.hid (cut1_any b z3)
            go_wp2_with fail
            refine KX.out.mono ?_
            rintro e z4 ⟨rfl, bel⟩
            replace X := mB X bel
            replace Y := mB Y bel
            replace HS := mT HS bel
            clear KX bel
            go_wp2
            refine HK _ _ (fun _ => HS.out) ?_
            clear HK
            exact wpAnyE_at (by kernel_rfl) (by kernel_rfl) (by rfl) (via x y z4 ⟨HS, X, Y, LX, LY, Lib.hid (Nat.ne_of_lt NYX.out)⟩)
        · go_wp2
          obtain ⟨z2, y, hz, hx', Y, bel, LY, hN⟩ := allocB HS 163 #[.int .i64 0, .int .i64 0, .int .i64 0, .int .i64 0]
          have NYX := hN X
          clear hN
          rw [← hz.out, ← hx'.out]
          replace X := mB X bel
          replace HS := mT HS bel
          refine HK _ _ (fun _ => HS.out) ?_
          clear HK hz hx' bel
          refine wpAnyE_step (i := 2) rfl (by kernel_rfl) (fun KQ HK => ?_)
          have KX := Lib.hid (cut1_any a z2)
          go_wp2_with fail
          refine KX.out.mono ?_
          rintro e z3 ⟨rfl, bel⟩
          replace X := mB X bel
          replace Y := mB Y bel
          replace HS := mT HS bel
          clear KX bel
          go_wp2
          refine HK _ _ (fun _ => HS.out) ?_
          clear HK
          refine wpAnyE_step (i := 5) rfl (by kernel_rfl) (fun KQ HK => ?_)
          have KX := Lib.hid (cut1_any b z3)
          go_wp2_with fail
          refine KX.out.mono ?_
          rintro e z4 ⟨rfl, bel⟩
          replace X := mB X bel
          replace Y := mB Y bel
          replace HS := mT HS bel
          clear KX bel
          go_wp2
          refine HK _ _ (fun _ => HS.out) ?_
          clear HK
          exact wpAnyE_at (by kernel_rfl) (by kernel_rfl) (by rfl) (via x y z4 ⟨HS, X, Y, LX, LY, Lib.hid (Nat.ne_of_lt NYX.out)⟩)
      · go_wp2
        obtain ⟨z1, y, hz, hx', Y, bel, LY, hN⟩ := allocB HS 163 #[.int .i64 0, .int .i64 0, .int .i64 0, .int .i64 0]
        clear hN
        rw [← hz.out, ← hx'.out]
        replace HS := mT HS bel
        refine HK _ _ (fun _ => HS.out) ?_
        clear HK hz hx' bel
        refine wpAnyE_two (i := 2) (j := 6) rfl rfl (by kernel_rfl) (fun KQ HK => ?_) (fun KQ HK => ?_)
        · have KX := Lib.hid (cut1_any a z1)
          go_wp2_with fail
          refine KX.out.mono ?_
          rintro e z2 ⟨rfl, bel⟩
          replace Y := mB Y bel
          replace HS := mT HS bel
          clear KX bel
          go_wp2
          refine HK _ _ (fun _ => HS.out) ?_
          clear HK
          refine wpAnyE_two (i := 5) (j := 6) rfl rfl (by kernel_rfl) (fun KQ HK => ?_) (fun KQ HK => ?_)
          · have KX := Lib.hid (cut1_any b z2)
            go_wp2_with fail
            refine KX.out.mono ?_
            rintro e z3 ⟨rfl, bel⟩
            replace Y := mB Y bel
            replace HS := mT HS bel
            clear KX bel
            go_wp2
            refine HK _ _ (fun _ => HS.out) ?_
            clear HK
            refine wpAnyE_step (i := 6) rfl (by kernel_rfl) (fun KQ HK => ?_)
            go_wp2
            obtain ⟨z4, x, hz, hx', X, bel, LX, hN⟩ := allocB HS 163 #[.int .i64 0, .int .i64 0, .int .i64 0, .int .i64 0]
            have NXY := hN Y
            clear hN
            rw [← hz.out, ← hx'.out]
            replace Y := mB Y bel
            replace HS := mT HS bel
            refine HK _ _ (fun _ => HS.out) ?_
            clear HK hz hx' bel
            exact wpAnyE_at (by kernel_rfl) (by kernel_rfl) (by rfl) (via x y z4 ⟨HS, X, Y, LX, LY, Lib.hid (Nat.ne_of_gt NXY.out)⟩)
          · go_wp2
            obtain ⟨z3, x, hz, hx', X, bel, LX, hN⟩ := allocB HS 163 #[.int .i64 0, .int .i64 0, .int .i64 0, .int .i64 0]
            have NXY := hN Y
            clear hN
            rw [← hz.out, ← hx'.out]
            replace Y := mB Y bel
            replace HS := mT HS bel
            refine HK _ _ (fun _ => HS.out) ?_
            clear HK hz hx' bel
            refine wpAnyE_step (i := 5) rfl (by kernel_rfl) (fun KQ HK => ?_)
            have KX := Lib.hid (cut1_any b z3)
            go_wp2_with fail
            refine KX.out.mono ?_
            rintro e z4 ⟨rfl, bel⟩
            replace Y := mB Y bel
            replace X := mB X bel
            replace HS := mT HS bel
            clear KX bel
            go_wp2
            refine HK _ _ (fun _ => HS.out) ?_
            clear HK
            exact wpAnyE_at (by kernel_rfl) (by kernel_rfl) (by rfl) (via x y z4 ⟨HS, X, Y, LX, LY, Lib.hid (Nat.ne_of_gt NXY.out)⟩)
        · go_wp2
          obtain ⟨z2, x, hz, hx', X, bel, LX, hN⟩ := allocB HS 163 #[.int .i64 0, .int .i64 0, .int .i64 0, .int .i64 0]
          have NXY := hN Y
          clear hN
          rw [← hz.out, ← hx'.out]
          replace Y := mB Y bel
          replace HS := mT HS bel
          refine HK _ _ (fun _ => HS.out) ?_
          clear HK hz hx' bel
          refine wpAnyE_step (i := 2) rfl (by kernel_rfl) (fun KQ HK => ?_)
          have KX := Lib.hid (cut1_any a z2)
          go_wp2_with fail
          refine KX.out.mono ?_
          rintro e z3 ⟨rfl, bel⟩
          replace Y := mB Y bel
          replace X := mB X bel
          replace HS := mT HS bel
          clear KX bel
          go_wp2
          refine HK _ _ (fun _ => HS.out) ?_
          clear HK
          refine wpAnyE_step (i := 5) rfl (by kernel_rfl) (fun KQ HK => ?_)
          have KX := Lib.hid (cut1_any b z3)
          go_wp2_with fail
          refine KX.out.mono ?_
          rintro e z4 ⟨rfl, bel⟩
          replace Y := mB Y bel
          replace X := mB X bel
          replace HS := mT HS bel
          clear KX bel
          go_wp2
          refine HK _ _ (fun _ => HS.out) ?_
          clear HK
          exact wpAnyE_at (by kernel_rfl) (by kernel_rfl) (by rfl) (via x y z4 ⟨HS, X, Y, LX, LY, Lib.hid (Nat.ne_of_gt NXY.out)⟩)
    rintro x y z ⟨HS, X, Y, LX, LY, PXY⟩
    refine wpAnyE_step (i := 8) rfl (by kernel_rfl) (fun KQ HK => ?_)
    (try go_simp)
    refine wpList_storeB rfl 163 _ _ rfl _ _ _ rfl rfl (by kernel_rfl) X.out rfl (by simp [Value.oneCell']) ?_
    intro ya hSt hgr
    replace HS := gT HS hgr LX.out
    replace X := Lib.hid hSt
    replace Y := gB Y hgr PXY.out
    clear hSt hgr
    (try simp only [Act.put])
    go_wp2
    refine HK _ _ (fun _ => HS.out) ?_
    clear HK
    refine wpAnyE_step (i := 9) rfl (by kernel_rfl) (fun KQ HK => ?_)
    (try go_simp)
    refine wpList_storeB rfl 163 _ _ rfl _ _ _ rfl rfl (by kernel_rfl) Y.out rfl (by simp [Value.oneCell']) ?_
    intro yb hSt hgr
    replace HS := gT HS hgr LY.out
    replace Y := Lib.hid hSt
    replace X := gB X hgr PXY.out.symm
    clear hSt hgr
    (try simp only [Act.put])
    go_wp2
    refine HK _ _ (fun _ => HS.out) ?_
    clear HK
    have NXBA := Lib.hid (Nat.lt_of_lt_of_le BA.out.lt LX.out)
    have NXBB := Lib.hid (Nat.lt_of_lt_of_le BB.out.lt LX.out)
    have NXBR := Lib.hid (Nat.lt_of_lt_of_le BR.out.lt LX.out)
    replace LX := Lib.hid (Nat.le_trans HB.out.size LX.out)
    have NYBA := Lib.hid (Nat.lt_of_lt_of_le BA.out.lt LY.out)
    have NYBB := Lib.hid (Nat.lt_of_lt_of_le BB.out.lt LY.out)
    have NYBR := Lib.hid (Nat.lt_of_lt_of_le BR.out.lt LY.out)
    replace LY := Lib.hid (Nat.le_trans HB.out.size LY.out)
    replace BA := mB BA HS.out
    replace BB := mB BB HS.out
    replace BR := mB BR HS.out
    replace HB := mT HB HS.out
    clear HS
    refine wpAnyE_done (by kernel_rfl) ?_
    go_wp2_with fail
    go_meet
    have n_XBA := NXBA.out
    have n_XBB := NXBB.out
    have n_XBR := NXBR.out
    have p_XY := PXY.out
    have hlx := LX.out
    exact ⟨x, y, rfl, rfl, ⟨X.out, Y.out, hlx, by omega, by omega⟩, BA.out, BB.out, BR.out, HB.out⟩
  case rest =>
    obtain ⟨x, y, rfl, rfl, ⟨qX, qY, hx1, hx2, hx3⟩, qBA, qBB, qBR, qHB⟩ := hcut
    have BA := Lib.hid qBA
    have BB := Lib.hid qBB
    have BR := Lib.hid qBR
    have HB := Lib.hid qHB
    clear qBA qBB qBR qHB
    have X := Lib.hid qX
    have Y := Lib.hid qY
    have HX1 := Lib.hid hx1
    have HX2 := Lib.hid hx2
    have HX3 := Lib.hid hx3
    clear qX qY hx1 hx2 hx3
    go_wp2
    go_loopw [43] (fun s43 wr => RowKit.Hid ((s43 = .int .i64 (0 : Nat) ∧ HasBlk wr w.heap.size 124 #[.int .i64 a.p.x, .int .i64 a.p.y, .int .i64 a.p.z, .int .i64 a.u, .int .i64 a.v] ∧ HasBlk wr (w.heap.size + 1) 124 #[.int .i64 b.p.x, .int .i64 b.p.y, .int .i64 b.p.z, .int .i64 b.u, .int .i64 b.v] ∧ HasBlk wr (w.heap.size + 1 + 1) 124 #[.int .i64 0, .int .i64 0, .int .i64 0, .int .i64 0, .int .i64 0] ∧ HasBlk wr x 163 #[.int .i64 a.p.x, .int .i64 a.p.y, .int .i64 a.u, .int .i64 a.v] ∧ HasBlk wr y 163 #[.int .i64 b.p.x, .int .i64 b.p.y, .int .i64 b.u, .int .i64 b.v] ∧ Below w.heap.size w wr) ∨ ((s43 = .int .i64 (1 : Nat) ∧ HasBlk wr w.heap.size 124 #[.int .i64 a.p.x, .int .i64 a.p.y, .int .i64 a.p.z, .int .i64 a.u, .int .i64 a.v] ∧ HasBlk wr (w.heap.size + 1) 124 #[.int .i64 b.p.x, .int .i64 b.p.y, .int .i64 b.p.z, .int .i64 b.u, .int .i64 b.v] ∧ HasBlk wr (w.heap.size + 1 + 1) 124 #[.int .i64 0, .int .i64 0, .int .i64 0, .int .i64 0, .int .i64 0] ∧ HasBlk wr x 163 #[.int .i64 ((cutn a.p.x b.p.x n a.p.z b.p.z)), .int .i64 a.p.y, .int .i64 a.u, .int .i64 a.v] ∧ HasBlk wr y 163 #[.int .i64 b.p.x, .int .i64 b.p.y, .int .i64 b.u, .int .i64 b.v] ∧ Below w.heap.size w wr) ∨ ((s43 = .int .i64 (2 : Nat) ∧ HasBlk wr w.heap.size 124 #[.int .i64 a.p.x, .int .i64 a.p.y, .int .i64 a.p.z, .int .i64 a.u, .int .i64 a.v] ∧ HasBlk wr (w.heap.size + 1) 124 #[.int .i64 b.p.x, .int .i64 b.p.y, .int .i64 b.p.z, .int .i64 b.u, .int .i64 b.v] ∧ HasBlk wr (w.heap.size + 1 + 1) 124 #[.int .i64 0, .int .i64 0, .int .i64 0, .int .i64 0, .int .i64 0] ∧ HasBlk wr x 163 #[.int .i64 ((cutn a.p.x b.p.x n a.p.z b.p.z)), .int .i64 ((cutn a.p.y b.p.y n a.p.z b.p.z)), .int .i64 a.u, .int .i64 a.v] ∧ HasBlk wr y 163 #[.int .i64 b.p.x, .int .i64 b.p.y, .int .i64 b.u, .int .i64 b.v] ∧ Below w.heap.size w wr) ∨ ((s43 = .int .i64 (3 : Nat) ∧ HasBlk wr w.heap.size 124 #[.int .i64 a.p.x, .int .i64 a.p.y, .int .i64 a.p.z, .int .i64 a.u, .int .i64 a.v] ∧ HasBlk wr (w.heap.size + 1) 124 #[.int .i64 b.p.x, .int .i64 b.p.y, .int .i64 b.p.z, .int .i64 b.u, .int .i64 b.v] ∧ HasBlk wr (w.heap.size + 1 + 1) 124 #[.int .i64 0, .int .i64 0, .int .i64 0, .int .i64 0, .int .i64 0] ∧ HasBlk wr x 163 #[.int .i64 ((cutn a.p.x b.p.x n a.p.z b.p.z)), .int .i64 ((cutn a.p.y b.p.y n a.p.z b.p.z)), .int .i64 ((cutn a.u b.u n a.p.z b.p.z)), .int .i64 a.v] ∧ HasBlk wr y 163 #[.int .i64 b.p.x, .int .i64 b.p.y, .int .i64 b.u, .int .i64 b.v] ∧ Below w.heap.size w wr) ∨ ((s43 = .int .i64 (4 : Nat) ∧ HasBlk wr w.heap.size 124 #[.int .i64 a.p.x, .int .i64 a.p.y, .int .i64 a.p.z, .int .i64 a.u, .int .i64 a.v] ∧ HasBlk wr (w.heap.size + 1) 124 #[.int .i64 b.p.x, .int .i64 b.p.y, .int .i64 b.p.z, .int .i64 b.u, .int .i64 b.v] ∧ HasBlk wr (w.heap.size + 1 + 1) 124 #[.int .i64 0, .int .i64 0, .int .i64 0, .int .i64 0, .int .i64 0] ∧ HasBlk wr x 163 #[.int .i64 ((cutn a.p.x b.p.x n a.p.z b.p.z)), .int .i64 ((cutn a.p.y b.p.y n a.p.z b.p.z)), .int .i64 ((cutn a.u b.u n a.p.z b.p.z)), .int .i64 ((cutn a.v b.v n a.p.z b.p.z))] ∧ HasBlk wr y 163 #[.int .i64 b.p.x, .int .i64 b.p.y, .int .i64 b.u, .int .i64 b.v] ∧ Below w.heap.size w wr))))))) (fun s43 wr => 4 - (intOf s43).toNat)
    case atStart => exact Lib.hid (.inl ⟨rfl, BA.out, BB.out, BR.out, X.out, Y.out, HB.out⟩)
    case round =>
      clear BA BB BR X Y HB
      rcases hrel.out with ⟨rfl, qBA, qBB, qBR, qX, qY, qHB⟩ | ⟨rfl, qBA, qBB, qBR, qX, qY, qHB⟩ | ⟨rfl, qBA, qBB, qBR, qX, qY, qHB⟩ | ⟨rfl, qBA, qBB, qBR, qX, qY, qHB⟩ | ⟨rfl, qBA, qBB, qBR, qX, qY, qHB⟩
      · have BA := Lib.hid qBA
        have BB := Lib.hid qBB
        have BR := Lib.hid qBR
        have X := Lib.hid qX
        have Y := Lib.hid qY
        have HB := Lib.hid qHB
        clear qBA qBB qBR qX qY qHB
        go_upto_region 11 with fail
        have ha := HA.out
        have hb := HBB.out
        have hn := HN.out
        have h1 := H1.out
        have h2 := H2.out
        unfold P5.Ok at ha hb
        unfold Wi at ha hb hn
        have pr := mul_bd2 (A := 49152) (B := 28672) (a := (b.p.x - a.p.x)) (b := n - a.p.z) (by decide) (by omega) (by omega)
        have w1 : IntKind.i64.wrap (b.p.x - a.p.x) = (b.p.x - a.p.x) := IntWalk.i64_in _ (by omega)
        have w2 : IntKind.i64.wrap (n - a.p.z) = n - a.p.z := IntWalk.i64_in _ (by omega)
        have w3 : IntKind.i64.wrap ((b.p.x - a.p.x) * (n - a.p.z)) = ((b.p.x - a.p.x) * (n - a.p.z)) := IntWalk.i64_in _ (by omega)
        have w4 : IntKind.i64.wrap (b.p.z - a.p.z) = b.p.z - a.p.z := IntWalk.i64_in _ (by omega)
        have ci := cutn_in h1 h2 HA.out.1.1 HBB.out.1.1
        have w5 : IntKind.i64.wrap (a.p.x + ((b.p.x - a.p.x) * (n - a.p.z)) / (b.p.z - a.p.z)) = cutn a.p.x b.p.x n a.p.z b.p.z := IntWalk.i64_in _ (by unfold cutn at ci; omega)
        have KF := Lib.hid (fun W => floor_any ((b.p.x - a.p.x) * (n - a.p.z)) (b.p.z - a.p.z) (by omega) (by omega) (by omega) W)
        clear ha hb hn h1 h2 pr ci
        have e0 := fun pb : BW wr => BW.cell (X.out.at 0 rfl) X.out.lt pb
        have e1 := fun pb : BW wr => BW.cell (Y.out.at 0 rfl) Y.out.lt pb
        have e2 := fun pb : BW wr => BW.cell (BA.out.at 2 rfl) BA.out.lt pb
        have e3 := fun pb : BW wr => BW.cell (BB.out.at 2 rfl) BB.out.lt pb
        have k1 := Lib.hid (fun pb : BW wr => BW.call (v := .tuple #[.int .i64 (((b.p.x - a.p.x) * (n - a.p.z)) / (b.p.z - a.p.z)), .int .i64 0]) (fun W' (h : Below wr.heap.size wr W') => KF.out W') pb)
        refine wp_region_quiet_bw (by kernel_rfl) (by kernel_rfl) ?_
        repeat (go_big_quiet_step ((go_at_call 29; with_reducible exact k1.out _)))
        refine wpQuiet_nil ?_
        intro _ hw'
        obtain ⟨pq, hw''⟩ := hw'
        subst hw''
        clear e0 e1 e2 e3 k1
        replace BA := mB BA pq.h
        replace BB := mB BB pq.h
        replace BR := mB BR pq.h
        replace X := mB X pq.h
        replace Y := mB Y pq.h
        replace HB := mT HB pq.h
        generalize pq.W = u1 at *
        clear pq
        have x_ := X.out.f4
        go_wp2
        clear x_
        have qBA := BA.out.far (p := ⟨x, 0, none⟩) (by have := HX1.out; have := HX2.out; have := HX3.out; first | omega | (simp; omega)) (.int .i64 ((cutn a.p.x b.p.x n a.p.z b.p.z)))
        have qBB := BB.out.far (p := ⟨x, 0, none⟩) (by have := HX1.out; have := HX2.out; have := HX3.out; first | omega | (simp; omega)) (.int .i64 ((cutn a.p.x b.p.x n a.p.z b.p.z)))
        have qBR := BR.out.far (p := ⟨x, 0, none⟩) (by have := HX1.out; have := HX2.out; have := HX3.out; first | omega | (simp; omega)) (.int .i64 ((cutn a.p.x b.p.x n a.p.z b.p.z)))
        have qY := Y.out.far (p := ⟨x, 0, none⟩) (by have := HX1.out; have := HX2.out; have := HX3.out; first | omega | (simp; omega)) (.int .i64 ((cutn a.p.x b.p.x n a.p.z b.p.z)))
        have qX : HasBlk (u1.setCell ⟨x, 0, none⟩ (.int .i64 ((cutn a.p.x b.p.x n a.p.z b.p.z)))) x 163 #[.int .i64 ((cutn a.p.x b.p.x n a.p.z b.p.z)), .int .i64 a.p.y, .int .i64 a.u, .int .i64 a.v] := by simpa using X.out.set 0 (.int .i64 ((cutn a.p.x b.p.x n a.p.z b.p.z)))
        have qHB := Below.setCell (p := ⟨x, 0, none⟩) HB.out HX1.out (.int .i64 ((cutn a.p.x b.p.x n a.p.z b.p.z)))
        generalize (u1.setCell ⟨x, 0, none⟩ (.int .i64 ((cutn a.p.x b.p.x n a.p.z b.p.z)))) = u2 at *
        go_roundw
        case rel => exact Lib.hid (.inr ((.inl ⟨by go_num, qBA, qBB, qBR, qX, qY, qHB⟩)))
        case measure => simp [intOf]
      · have BA := Lib.hid qBA
        have BB := Lib.hid qBB
        have BR := Lib.hid qBR
        have X := Lib.hid qX
        have Y := Lib.hid qY
        have HB := Lib.hid qHB
        clear qBA qBB qBR qX qY qHB
        go_upto_region 11 with fail
        have ha := HA.out
        have hb := HBB.out
        have hn := HN.out
        have h1 := H1.out
        have h2 := H2.out
        unfold P5.Ok at ha hb
        unfold Wi at ha hb hn
        have pr := mul_bd2 (A := 49152) (B := 28672) (a := (b.p.y - a.p.y)) (b := n - a.p.z) (by decide) (by omega) (by omega)
        have w1 : IntKind.i64.wrap (b.p.y - a.p.y) = (b.p.y - a.p.y) := IntWalk.i64_in _ (by omega)
        have w2 : IntKind.i64.wrap (n - a.p.z) = n - a.p.z := IntWalk.i64_in _ (by omega)
        have w3 : IntKind.i64.wrap ((b.p.y - a.p.y) * (n - a.p.z)) = ((b.p.y - a.p.y) * (n - a.p.z)) := IntWalk.i64_in _ (by omega)
        have w4 : IntKind.i64.wrap (b.p.z - a.p.z) = b.p.z - a.p.z := IntWalk.i64_in _ (by omega)
        have ci := cutn_in h1 h2 HA.out.1.2.1 HBB.out.1.2.1
        have w5 : IntKind.i64.wrap (a.p.y + ((b.p.y - a.p.y) * (n - a.p.z)) / (b.p.z - a.p.z)) = cutn a.p.y b.p.y n a.p.z b.p.z := IntWalk.i64_in _ (by unfold cutn at ci; omega)
        have KF := Lib.hid (fun W => floor_any ((b.p.y - a.p.y) * (n - a.p.z)) (b.p.z - a.p.z) (by omega) (by omega) (by omega) W)
        clear ha hb hn h1 h2 pr ci
        have e0 := fun pb : BW wr => BW.cell (X.out.at 1 rfl) X.out.lt pb
        have e1 := fun pb : BW wr => BW.cell (Y.out.at 1 rfl) Y.out.lt pb
        have e2 := fun pb : BW wr => BW.cell (BA.out.at 2 rfl) BA.out.lt pb
        have e3 := fun pb : BW wr => BW.cell (BB.out.at 2 rfl) BB.out.lt pb
        have k1 := Lib.hid (fun pb : BW wr => BW.call (v := .tuple #[.int .i64 (((b.p.y - a.p.y) * (n - a.p.z)) / (b.p.z - a.p.z)), .int .i64 0]) (fun W' (h : Below wr.heap.size wr W') => KF.out W') pb)
        refine wp_region_quiet_bw (by kernel_rfl) (by kernel_rfl) ?_
        repeat (go_big_quiet_step ((go_at_call 29; with_reducible exact k1.out _)))
        refine wpQuiet_nil ?_
        intro _ hw'
        obtain ⟨pq, hw''⟩ := hw'
        subst hw''
        clear e0 e1 e2 e3 k1
        replace BA := mB BA pq.h
        replace BB := mB BB pq.h
        replace BR := mB BR pq.h
        replace X := mB X pq.h
        replace Y := mB Y pq.h
        replace HB := mT HB pq.h
        generalize pq.W = u1 at *
        clear pq
        have x_ := X.out.f4
        go_wp2
        clear x_
        have qBA := BA.out.far (p := ⟨x, 1, none⟩) (by have := HX1.out; have := HX2.out; have := HX3.out; first | omega | (simp; omega)) (.int .i64 ((cutn a.p.y b.p.y n a.p.z b.p.z)))
        have qBB := BB.out.far (p := ⟨x, 1, none⟩) (by have := HX1.out; have := HX2.out; have := HX3.out; first | omega | (simp; omega)) (.int .i64 ((cutn a.p.y b.p.y n a.p.z b.p.z)))
        have qBR := BR.out.far (p := ⟨x, 1, none⟩) (by have := HX1.out; have := HX2.out; have := HX3.out; first | omega | (simp; omega)) (.int .i64 ((cutn a.p.y b.p.y n a.p.z b.p.z)))
        have qY := Y.out.far (p := ⟨x, 1, none⟩) (by have := HX1.out; have := HX2.out; have := HX3.out; first | omega | (simp; omega)) (.int .i64 ((cutn a.p.y b.p.y n a.p.z b.p.z)))
        have qX : HasBlk (u1.setCell ⟨x, 1, none⟩ (.int .i64 ((cutn a.p.y b.p.y n a.p.z b.p.z)))) x 163 #[.int .i64 ((cutn a.p.x b.p.x n a.p.z b.p.z)), .int .i64 ((cutn a.p.y b.p.y n a.p.z b.p.z)), .int .i64 a.u, .int .i64 a.v] := by simpa using X.out.set 1 (.int .i64 ((cutn a.p.y b.p.y n a.p.z b.p.z)))
        have qHB := Below.setCell (p := ⟨x, 1, none⟩) HB.out HX1.out (.int .i64 ((cutn a.p.y b.p.y n a.p.z b.p.z)))
        generalize (u1.setCell ⟨x, 1, none⟩ (.int .i64 ((cutn a.p.y b.p.y n a.p.z b.p.z)))) = u2 at *
        go_roundw
        case rel => exact Lib.hid (.inr (.inr ((.inl ⟨by go_num, qBA, qBB, qBR, qX, qY, qHB⟩))))
        case measure => simp [intOf]
      · have BA := Lib.hid qBA
        have BB := Lib.hid qBB
        have BR := Lib.hid qBR
        have X := Lib.hid qX
        have Y := Lib.hid qY
        have HB := Lib.hid qHB
        clear qBA qBB qBR qX qY qHB
        go_upto_region 11 with fail
        have ha := HA.out
        have hb := HBB.out
        have hn := HN.out
        have h1 := H1.out
        have h2 := H2.out
        unfold P5.Ok at ha hb
        unfold Wi at ha hb hn
        have pr := mul_bd2 (A := 49152) (B := 28672) (a := (b.u - a.u)) (b := n - a.p.z) (by decide) (by omega) (by omega)
        have w1 : IntKind.i64.wrap (b.u - a.u) = (b.u - a.u) := IntWalk.i64_in _ (by omega)
        have w2 : IntKind.i64.wrap (n - a.p.z) = n - a.p.z := IntWalk.i64_in _ (by omega)
        have w3 : IntKind.i64.wrap ((b.u - a.u) * (n - a.p.z)) = ((b.u - a.u) * (n - a.p.z)) := IntWalk.i64_in _ (by omega)
        have w4 : IntKind.i64.wrap (b.p.z - a.p.z) = b.p.z - a.p.z := IntWalk.i64_in _ (by omega)
        have ci := cutn_in h1 h2 HA.out.2.1 HBB.out.2.1
        have w5 : IntKind.i64.wrap (a.u + ((b.u - a.u) * (n - a.p.z)) / (b.p.z - a.p.z)) = cutn a.u b.u n a.p.z b.p.z := IntWalk.i64_in _ (by unfold cutn at ci; omega)
        have KF := Lib.hid (fun W => floor_any ((b.u - a.u) * (n - a.p.z)) (b.p.z - a.p.z) (by omega) (by omega) (by omega) W)
        clear ha hb hn h1 h2 pr ci
        have e0 := fun pb : BW wr => BW.cell (X.out.at 2 rfl) X.out.lt pb
        have e1 := fun pb : BW wr => BW.cell (Y.out.at 2 rfl) Y.out.lt pb
        have e2 := fun pb : BW wr => BW.cell (BA.out.at 2 rfl) BA.out.lt pb
        have e3 := fun pb : BW wr => BW.cell (BB.out.at 2 rfl) BB.out.lt pb
        have k1 := Lib.hid (fun pb : BW wr => BW.call (v := .tuple #[.int .i64 (((b.u - a.u) * (n - a.p.z)) / (b.p.z - a.p.z)), .int .i64 0]) (fun W' (h : Below wr.heap.size wr W') => KF.out W') pb)
        refine wp_region_quiet_bw (by kernel_rfl) (by kernel_rfl) ?_
        repeat (go_big_quiet_step ((go_at_call 29; with_reducible exact k1.out _)))
        refine wpQuiet_nil ?_
        intro _ hw'
        obtain ⟨pq, hw''⟩ := hw'
        subst hw''
        clear e0 e1 e2 e3 k1
        replace BA := mB BA pq.h
        replace BB := mB BB pq.h
        replace BR := mB BR pq.h
        replace X := mB X pq.h
        replace Y := mB Y pq.h
        replace HB := mT HB pq.h
        generalize pq.W = u1 at *
        clear pq
        have x_ := X.out.f4
        go_wp2
        clear x_
        have qBA := BA.out.far (p := ⟨x, 2, none⟩) (by have := HX1.out; have := HX2.out; have := HX3.out; first | omega | (simp; omega)) (.int .i64 ((cutn a.u b.u n a.p.z b.p.z)))
        have qBB := BB.out.far (p := ⟨x, 2, none⟩) (by have := HX1.out; have := HX2.out; have := HX3.out; first | omega | (simp; omega)) (.int .i64 ((cutn a.u b.u n a.p.z b.p.z)))
        have qBR := BR.out.far (p := ⟨x, 2, none⟩) (by have := HX1.out; have := HX2.out; have := HX3.out; first | omega | (simp; omega)) (.int .i64 ((cutn a.u b.u n a.p.z b.p.z)))
        have qY := Y.out.far (p := ⟨x, 2, none⟩) (by have := HX1.out; have := HX2.out; have := HX3.out; first | omega | (simp; omega)) (.int .i64 ((cutn a.u b.u n a.p.z b.p.z)))
        have qX : HasBlk (u1.setCell ⟨x, 2, none⟩ (.int .i64 ((cutn a.u b.u n a.p.z b.p.z)))) x 163 #[.int .i64 ((cutn a.p.x b.p.x n a.p.z b.p.z)), .int .i64 ((cutn a.p.y b.p.y n a.p.z b.p.z)), .int .i64 ((cutn a.u b.u n a.p.z b.p.z)), .int .i64 a.v] := by simpa using X.out.set 2 (.int .i64 ((cutn a.u b.u n a.p.z b.p.z)))
        have qHB := Below.setCell (p := ⟨x, 2, none⟩) HB.out HX1.out (.int .i64 ((cutn a.u b.u n a.p.z b.p.z)))
        generalize (u1.setCell ⟨x, 2, none⟩ (.int .i64 ((cutn a.u b.u n a.p.z b.p.z)))) = u2 at *
        go_roundw
        case rel => exact Lib.hid (.inr (.inr (.inr ((.inl ⟨by go_num, qBA, qBB, qBR, qX, qY, qHB⟩)))))
        case measure => simp [intOf]
      · have BA := Lib.hid qBA
        have BB := Lib.hid qBB
        have BR := Lib.hid qBR
        have X := Lib.hid qX
        have Y := Lib.hid qY
        have HB := Lib.hid qHB
        clear qBA qBB qBR qX qY qHB
        go_upto_region 11 with fail
        have ha := HA.out
        have hb := HBB.out
        have hn := HN.out
        have h1 := H1.out
        have h2 := H2.out
        unfold P5.Ok at ha hb
        unfold Wi at ha hb hn
        have pr := mul_bd2 (A := 49152) (B := 28672) (a := (b.v - a.v)) (b := n - a.p.z) (by decide) (by omega) (by omega)
        have w1 : IntKind.i64.wrap (b.v - a.v) = (b.v - a.v) := IntWalk.i64_in _ (by omega)
        have w2 : IntKind.i64.wrap (n - a.p.z) = n - a.p.z := IntWalk.i64_in _ (by omega)
        have w3 : IntKind.i64.wrap ((b.v - a.v) * (n - a.p.z)) = ((b.v - a.v) * (n - a.p.z)) := IntWalk.i64_in _ (by omega)
        have w4 : IntKind.i64.wrap (b.p.z - a.p.z) = b.p.z - a.p.z := IntWalk.i64_in _ (by omega)
        have ci := cutn_in h1 h2 HA.out.2.2 HBB.out.2.2
        have w5 : IntKind.i64.wrap (a.v + ((b.v - a.v) * (n - a.p.z)) / (b.p.z - a.p.z)) = cutn a.v b.v n a.p.z b.p.z := IntWalk.i64_in _ (by unfold cutn at ci; omega)
        have KF := Lib.hid (fun W => floor_any ((b.v - a.v) * (n - a.p.z)) (b.p.z - a.p.z) (by omega) (by omega) (by omega) W)
        clear ha hb hn h1 h2 pr ci
        have e0 := fun pb : BW wr => BW.cell (X.out.at 3 rfl) X.out.lt pb
        have e1 := fun pb : BW wr => BW.cell (Y.out.at 3 rfl) Y.out.lt pb
        have e2 := fun pb : BW wr => BW.cell (BA.out.at 2 rfl) BA.out.lt pb
        have e3 := fun pb : BW wr => BW.cell (BB.out.at 2 rfl) BB.out.lt pb
        have k1 := Lib.hid (fun pb : BW wr => BW.call (v := .tuple #[.int .i64 (((b.v - a.v) * (n - a.p.z)) / (b.p.z - a.p.z)), .int .i64 0]) (fun W' (h : Below wr.heap.size wr W') => KF.out W') pb)
        refine wp_region_quiet_bw (by kernel_rfl) (by kernel_rfl) ?_
        repeat (go_big_quiet_step ((go_at_call 29; with_reducible exact k1.out _)))
        refine wpQuiet_nil ?_
        intro _ hw'
        obtain ⟨pq, hw''⟩ := hw'
        subst hw''
        clear e0 e1 e2 e3 k1
        replace BA := mB BA pq.h
        replace BB := mB BB pq.h
        replace BR := mB BR pq.h
        replace X := mB X pq.h
        replace Y := mB Y pq.h
        replace HB := mT HB pq.h
        generalize pq.W = u1 at *
        clear pq
        have x_ := X.out.f4
        go_wp2
        clear x_
        have qBA := BA.out.far (p := ⟨x, 3, none⟩) (by have := HX1.out; have := HX2.out; have := HX3.out; first | omega | (simp; omega)) (.int .i64 ((cutn a.v b.v n a.p.z b.p.z)))
        have qBB := BB.out.far (p := ⟨x, 3, none⟩) (by have := HX1.out; have := HX2.out; have := HX3.out; first | omega | (simp; omega)) (.int .i64 ((cutn a.v b.v n a.p.z b.p.z)))
        have qBR := BR.out.far (p := ⟨x, 3, none⟩) (by have := HX1.out; have := HX2.out; have := HX3.out; first | omega | (simp; omega)) (.int .i64 ((cutn a.v b.v n a.p.z b.p.z)))
        have qY := Y.out.far (p := ⟨x, 3, none⟩) (by have := HX1.out; have := HX2.out; have := HX3.out; first | omega | (simp; omega)) (.int .i64 ((cutn a.v b.v n a.p.z b.p.z)))
        have qX : HasBlk (u1.setCell ⟨x, 3, none⟩ (.int .i64 ((cutn a.v b.v n a.p.z b.p.z)))) x 163 #[.int .i64 ((cutn a.p.x b.p.x n a.p.z b.p.z)), .int .i64 ((cutn a.p.y b.p.y n a.p.z b.p.z)), .int .i64 ((cutn a.u b.u n a.p.z b.p.z)), .int .i64 ((cutn a.v b.v n a.p.z b.p.z))] := by simpa using X.out.set 3 (.int .i64 ((cutn a.v b.v n a.p.z b.p.z)))
        have qHB := Below.setCell (p := ⟨x, 3, none⟩) HB.out HX1.out (.int .i64 ((cutn a.v b.v n a.p.z b.p.z)))
        generalize (u1.setCell ⟨x, 3, none⟩ (.int .i64 ((cutn a.v b.v n a.p.z b.p.z)))) = u2 at *
        go_roundw
        case rel => exact Lib.hid (.inr (.inr (.inr (.inr (⟨by go_num, qBA, qBB, qBR, qX, qY, qHB⟩)))))
        case measure => simp [intOf]
      · have BA := Lib.hid qBA
        have BB := Lib.hid qBB
        have BR := Lib.hid qBR
        have X := Lib.hid qX
        have Y := Lib.hid qY
        have HB := Lib.hid qHB
        clear qBA qBB qBR qX qY qHB
        have x_ := X.out.c4
        have br_ := BR.out.f5
        go_wp2
        refine bodyPost_ret (v := .tuple #[.agg #[.int .i64 ((cutn a.p.x b.p.x n a.p.z b.p.z)), .int .i64 ((cutn a.p.y b.p.y n a.p.z b.p.z)), .int .i64 n, .int .i64 ((cutn a.u b.u n a.p.z b.p.z)), .int .i64 ((cutn a.v b.v n a.p.z b.p.z))], .int .i64 0]) (by simp [results, Tryd.results71, go_sem, *]) rfl ⟨rfl, ?_⟩
        repeat (refine Below.setCell ?_ (by first | omega | (simp; done) | (simp; omega)) _)
        exact HB.out
end Go.Proofs.YtemopgpcpjnmkaaDoor
