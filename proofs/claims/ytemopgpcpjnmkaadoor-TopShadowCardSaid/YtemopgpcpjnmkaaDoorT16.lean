/- top: which pixels a triangle has. -/
import Derived.Test.YtemopgpcpjnmkaaDoorT13
import Derived.Test.YtemopgpcpjnmkaaDoorLoad
namespace Go.Proofs.YtemopgpcpjnmkaaDoor
open Go.RowKit
set_option linter.unusedVariables false
/-- A side's weight at a pixel. -/
def S5.w (a b : S5) (x y : Int) : Int := (b.x - a.x) * (8 * y + 4 - a.y) - (8 * x + 4 - a.x) * (b.y - a.y)
def S5.owns (a b : S5) : Bool := decide (b.y < a.y) || (b.y == a.y && decide (a.x < b.x))
def S5.cov (a b : S5) (x y : Int) : Bool := !(decide (S5.w a b x y < 0) || (S5.w a b x y == 0 && !S5.owns a b))
/-- Has a triangle a pixel? -/
def T3.cov (t : T3) (x y : Int) : Bool := (S5.cov t.b t.c x y && S5.cov t.c t.a x y) && S5.cov t.a t.b x y
def Pix (x y : Int) : Prop := (0 ≤ x ∧ x < 64) ∧ (0 ≤ y ∧ y < 64)
/-- What a weight is made of. -/
theorem S5.w_bd {a b : S5} {x y : Int} (ha : a.Ok) (hb : b.Ok) (h : Pix x y) : (-17179869184 ≤ (b.x - a.x) * (8 * y + 4 - a.y) ∧ (b.x - a.x) * (8 * y + 4 - a.y) ≤ 17179869184) ∧ (-17179869184 ≤ (8 * x + 4 - a.x) * (b.y - a.y) ∧ (8 * x + 4 - a.x) * (b.y - a.y) ≤ 17179869184) := by
  unfold S5.Ok Wi at ha hb
  unfold Pix at h
  exact ⟨mul_bd2 (A := 131072) (B := 131072) (by decide) (by omega) (by omega), mul_bd2 (A := 131072) (B := 131072) (by decide) (by omega) (by omega)⟩

set_option maxRecDepth 100000 in
set_option maxHeartbeats 16000000 in
theorem efront_ok (t : T3) (ht : t.Ok) (ha : 0 < t.area) (w : World) : Calls Tryd.prog 55 #[.agg #[.int .i64 t.a.x, .int .i64 t.a.y, .int .i64 t.a.d, .int .i64 t.a.u, .int .i64 t.a.v, .int .i64 t.b.x, .int .i64 t.b.y, .int .i64 t.b.d, .int .i64 t.b.u, .int .i64 t.b.v, .int .i64 t.c.x, .int .i64 t.c.y, .int .i64 t.c.d, .int .i64 t.c.u, .int .i64 t.c.v]] w fun e w' => e = .returned (.int .i64 0) ∧ Below w.heap.size w w' := by
  have HT := Lib.hid ht
  have HA := Lib.hid ha
  clear ht ha
  obtain ⟨v0, hv0, BT, HB⟩ := lay1 w 87 #[.int .i64 t.a.x, .int .i64 t.a.y, .int .i64 t.a.d, .int .i64 t.a.u, .int .i64 t.a.v, .int .i64 t.b.x, .int .i64 t.b.y, .int .i64 t.b.d, .int .i64 t.b.u, .int .i64 t.b.v, .int .i64 t.c.x, .int .i64 t.c.y, .int .i64 t.c.d, .int .i64 t.c.u, .int .i64 t.c.v]
  go_enter Tryd.func55, Tryd.ntmps55
  go_upto_region 1 with fail
  rw [← hv0.out]
  clear hv0
  have bt_ := BT.out.c15
  have KX := Lib.hid (area_ok t HT.out v0)
  go_wp2_with fail
  refine KX.out.mono ?_
  rintro e v1 ⟨rfl, bel⟩
  clear KX
  clear bt_
  replace BT := mB BT bel
  replace HB := mT HB bel
  clear bel
  have ha := HA.out
  generalize t.area = n at *
  have g1 : decide (n ≤ 0) = false := decide_eq_false (by omega)
  clear ha HA
  have bt_ := BT.out.c15
  go_wp2
  go_ret
  exact ⟨rfl, HB.out⟩

set_option maxRecDepth 100000 in
set_option maxHeartbeats 8000000 in
theorem middle_any (n : Int) (hn : 0 ≤ n ∧ n < 64) (w : World) : Calls Tryd.prog 57 #[.int .i64 n] w fun e w' => e = .returned (.int .i64 (8 * n + 4)) ∧ Below w.heap.size w w' := by
  have w1 : IntKind.i64.wrap (8 * n) = 8 * n := IntWalk.i64_in _ (by omega)
  have w2 : IntKind.i64.wrap (8 * n + 4) = 8 * n + 4 := IntWalk.i64_in _ (by omega)
  go_enter Tryd.func57, Tryd.ntmps57
  go_wp2
  go_ret
  exact ⟨rfl, Below.refl _ _⟩

set_option maxRecDepth 100000 in
set_option maxHeartbeats 8000000 in
theorem pixel_ok (x y : Int) (h : Pix x y) (w : World) : Calls Tryd.prog 56 #[.int .i64 x, .int .i64 y] w fun e w' => e = .returned (.bool true) ∧ Below w.heap.size w w' := by
  have hp := h
  unfold Pix at hp
  rcases Int.lt_trichotomy x y with hc | hc | hc
  · have q1 : min x y = x := by omega
    have q2 : max x y = y := by omega
    have q3 : ¬ y < x := by omega
    have q4 : ¬ y ≤ x := by omega
    have q5 : x ≤ y := by omega
    have g1 : decide (0 ≤ x) = true := decide_eq_true (by omega)
    have g2 : decide (y < 64) = true := decide_eq_true (by omega)
    clear hp h
    go_enter Tryd.func56, Tryd.ntmps56
    go_wp2
    go_ret
    exact ⟨rfl, Below.refl _ _⟩
  · subst hc
    have q1 : min x x = x := by omega
    have q2 : max x x = x := by omega
    have g1 : decide (0 ≤ x) = true := decide_eq_true (by omega)
    have g2 : decide (x < 64) = true := decide_eq_true (by omega)
    clear hp h
    go_enter Tryd.func56, Tryd.ntmps56
    go_wp2
    go_ret
    exact ⟨rfl, Below.refl _ _⟩
  · have q1 : min x y = y := by omega
    have q2 : max x y = x := by omega
    have q3 : ¬ x < y := by omega
    have q4 : ¬ x ≤ y := by omega
    have q5 : y ≤ x := by omega
    have g1 : decide (0 ≤ y) = true := decide_eq_true (by omega)
    have g2 : decide (x < 64) = true := decide_eq_true (by omega)
    clear hp h
    go_enter Tryd.func56, Tryd.ntmps56
    go_wp2
    go_ret
    exact ⟨rfl, Below.refl _ _⟩

set_option maxRecDepth 100000 in
set_option maxHeartbeats 16000000 in
theorem side0_any (t : T3) (w : World) : Calls Tryd.prog 54 #[.agg #[.int .i64 t.a.x, .int .i64 t.a.y, .int .i64 t.a.d, .int .i64 t.a.u, .int .i64 t.a.v, .int .i64 t.b.x, .int .i64 t.b.y, .int .i64 t.b.d, .int .i64 t.b.u, .int .i64 t.b.v, .int .i64 t.c.x, .int .i64 t.c.y, .int .i64 t.c.d, .int .i64 t.c.u, .int .i64 t.c.v], .int .i64 0] w fun e w' => e = .returned (.tuple #[.agg #[.int .i64 t.b.x, .int .i64 t.b.y, .int .i64 t.b.d, .int .i64 t.b.u, .int .i64 t.b.v], .agg #[.int .i64 t.c.x, .int .i64 t.c.y, .int .i64 t.c.d, .int .i64 t.c.u, .int .i64 t.c.v]]) ∧ Below w.heap.size w w' := by
  obtain ⟨v0, hv0, BT, SA, SB, HB⟩ := lay3 w 87 #[.int .i64 t.a.x, .int .i64 t.a.y, .int .i64 t.a.d, .int .i64 t.a.u, .int .i64 t.a.v, .int .i64 t.b.x, .int .i64 t.b.y, .int .i64 t.b.d, .int .i64 t.b.u, .int .i64 t.b.v, .int .i64 t.c.x, .int .i64 t.c.y, .int .i64 t.c.d, .int .i64 t.c.u, .int .i64 t.c.v] 86 #[.int .i64 0, .int .i64 0, .int .i64 0, .int .i64 0, .int .i64 0] 86 #[.int .i64 0, .int .i64 0, .int .i64 0, .int .i64 0, .int .i64 0]
  go_enter Tryd.func54, Tryd.ntmps54
  go_upto_region 1 with fail
  rw [← hv0.out]
  clear hv0
  have wz1 : IntKind.i64.wrap 1 = 1 := by decide
  have wz2 : IntKind.i64.wrap 2 = 2 := by decide
  have wz3 : IntKind.i64.wrap 3 = 3 := by decide
  have wz4 : IntKind.i64.wrap 4 = 4 := by decide
  have bd := (Below.refl v0.heap.size v0).drew
  replace BT := mB BT bd
  replace SA := mB SA bd
  replace SB := mB SB bd
  replace HB := mT HB bd
  clear bd
  obtain ⟨SS, hSS⟩ : ∃ SS : World → Prop, SS = (fun Wo => HasBlk Wo w.heap.size 87 #[.int .i64 t.a.x, .int .i64 t.a.y, .int .i64 t.a.d, .int .i64 t.a.u, .int .i64 t.a.v, .int .i64 t.b.x, .int .i64 t.b.y, .int .i64 t.b.d, .int .i64 t.b.u, .int .i64 t.b.v, .int .i64 t.c.x, .int .i64 t.c.y, .int .i64 t.c.d, .int .i64 t.c.u, .int .i64 t.c.v]) := ⟨_, rfl⟩
  have HSS := Lib.hid hSS
  clear hSS
  have HS := Lib.hid (show SS v0.drew by rw [HSS.out]; exact BT.out)
  refine wp_region_E SS 99 (by kernel_rfl) ?_
  generalize gwd : v0.drew = z0 at *
  clear gwd
  refine wpAnyE_takeA (i := 0) (v := .int .i64 0) rfl (by kernel_rfl) (fun _ _ _ h => h) (.inl ⟨by first | kernel_rfl | rfl, fun W hW => by go_simp⟩) HS.out ?_
  simp only [Act.put, List.setIfInBounds_toArray]
  refine wpAnyE_takeA (i := 1) (v := .int .i64 1) rfl (by kernel_rfl) (fun _ _ _ h => h) (.inl ⟨by first | kernel_rfl | rfl, fun W hW => by go_simp⟩) HS.out ?_
  simp only [Act.put]
  refine wpAnyE_takeA (i := 2) (v := .int .i64 1) rfl (by kernel_rfl) (fun _ _ _ h => h) (.inl ⟨by first | kernel_rfl | rfl, fun W hW => by go_simp⟩) HS.out ?_
  simp only [Act.put]
  refine wpAnyE_takeA (i := 3) (v := .pointer (some ⟨w.heap.size, 5, none⟩)) rfl (by kernel_rfl) (fun _ _ _ h => h) (.inl ⟨by first | kernel_rfl | rfl, fun W hW => by go_simp⟩) HS.out ?_
  simp only [Act.put]
  refine wpAnyE_takeA (i := 4) (v := .agg #[.int .i64 t.b.x, .int .i64 t.b.y, .int .i64 t.b.d, .int .i64 t.b.u, .int .i64 t.b.v]) rfl (by kernel_rfl) (fun _ _ _ h => h) (.inl ⟨by first | kernel_rfl | rfl, fun W hW => ?_⟩) HS.out ?_
  · rw [HSS.out] at hW
    have hWBT := hW
    have qBT0 := hWBT.cell 0
    have qBT1 := hWBT.cell 1
    have qBT2 := hWBT.cell 2
    have qBT3 := hWBT.cell 3
    have qBT4 := hWBT.cell 4
    have qBT5 := hWBT.cell 5
    have qBT6 := hWBT.cell 6
    have qBT7 := hWBT.cell 7
    have qBT8 := hWBT.cell 8
    have qBT9 := hWBT.cell 9
    have qBT10 := hWBT.cell 10
    have qBT11 := hWBT.cell 11
    have qBT12 := hWBT.cell 12
    have qBT13 := hWBT.cell 13
    have qBT14 := hWBT.cell 14
    have qzBT := hWBT.lt
    simp at qBT0 qBT1 qBT2 qBT3 qBT4 qBT5 qBT6 qBT7 qBT8 qBT9 qBT10 qBT11 qBT12 qBT13 qBT14
    go_simp
  simp only [Act.put]
  refine wpAnyE_takeA (i := 5) (v := .int .i64 0) rfl (by kernel_rfl) (fun _ _ _ h => h) (.inl ⟨by first | kernel_rfl | rfl, fun W hW => by go_simp⟩) HS.out ?_
  simp only [Act.put]
  refine wpAnyE_takeA (i := 6) (v := .int .i64 2) rfl (by kernel_rfl) (fun _ _ _ h => h) (.inl ⟨by first | kernel_rfl | rfl, fun W hW => by go_simp⟩) HS.out ?_
  simp only [Act.put]
  refine wpAnyE_takeA (i := 7) (v := .int .i64 2) rfl (by kernel_rfl) (fun _ _ _ h => h) (.inl ⟨by first | kernel_rfl | rfl, fun W hW => by go_simp⟩) HS.out ?_
  simp only [Act.put]
  refine wpAnyE_takeA (i := 8) (v := .pointer (some ⟨w.heap.size, 10, none⟩)) rfl (by kernel_rfl) (fun _ _ _ h => h) (.inl ⟨by first | kernel_rfl | rfl, fun W hW => by go_simp⟩) HS.out ?_
  simp only [Act.put]
  refine wpAnyE_takeA (i := 9) (v := .agg #[.int .i64 t.c.x, .int .i64 t.c.y, .int .i64 t.c.d, .int .i64 t.c.u, .int .i64 t.c.v]) rfl (by kernel_rfl) (fun _ _ _ h => h) (.inl ⟨by first | kernel_rfl | rfl, fun W hW => ?_⟩) HS.out ?_
  · rw [HSS.out] at hW
    have hWBT := hW
    have qBT0 := hWBT.cell 0
    have qBT1 := hWBT.cell 1
    have qBT2 := hWBT.cell 2
    have qBT3 := hWBT.cell 3
    have qBT4 := hWBT.cell 4
    have qBT5 := hWBT.cell 5
    have qBT6 := hWBT.cell 6
    have qBT7 := hWBT.cell 7
    have qBT8 := hWBT.cell 8
    have qBT9 := hWBT.cell 9
    have qBT10 := hWBT.cell 10
    have qBT11 := hWBT.cell 11
    have qBT12 := hWBT.cell 12
    have qBT13 := hWBT.cell 13
    have qBT14 := hWBT.cell 14
    have qzBT := hWBT.lt
    simp at qBT0 qBT1 qBT2 qBT3 qBT4 qBT5 qBT6 qBT7 qBT8 qBT9 qBT10 qBT11 qBT12 qBT13 qBT14
    go_simp
  simp only [Act.put]
  have LSA := Lib.hid (show w.heap.size ≤ w.heap.size + 1 by omega)
  have LSB := Lib.hid (show w.heap.size ≤ w.heap.size + 1 + 1 by omega)
  refine wpAnyE_step (i := 10) rfl (by kernel_rfl) (fun KQ HK => ?_)
  (try go_simp)
  refine wpList_storeB rfl 86 _ _ rfl _ _ _ rfl rfl (by kernel_rfl) SA.out rfl (by simp [Value.oneCell']) ?_
  intro ya hSt hgr
  have hl1 := LSA.out
  replace BT := Lib.hid (BT.out.grown hgr (fun e => by injection e with e; omega))
  replace SB := Lib.hid (SB.out.grown hgr (fun e => by injection e with e; omega))
  replace SA := Lib.hid hSt
  replace HB := Lib.hid (HB.out.grown hgr HB.out.size (fun k hk => by injection hk with hk; omega))
  clear HS hl1 hSt hgr
  have HS := Lib.hid (show SS ya by rw [HSS.out]; exact BT.out)
  (try simp only [Act.put])
  go_wp2
  refine HK _ _ (fun _ => HS.out) ?_
  clear HK
  refine wpAnyE_step (i := 11) rfl (by kernel_rfl) (fun KQ HK => ?_)
  (try go_simp)
  refine wpList_storeB rfl 86 _ _ rfl _ _ _ rfl rfl (by kernel_rfl) SB.out rfl (by simp [Value.oneCell']) ?_
  intro yb hSt hgr
  have hl1 := LSB.out
  replace BT := Lib.hid (BT.out.grown hgr (fun e => by injection e with e; omega))
  replace SA := Lib.hid (SA.out.grown hgr (fun e => by injection e with e; omega))
  replace SB := Lib.hid hSt
  replace HB := Lib.hid (HB.out.grown hgr HB.out.size (fun k hk => by injection hk with hk; omega))
  clear HS hl1 hSt hgr
  have HS := Lib.hid (show SS yb by rw [HSS.out]; exact BT.out)
  (try simp only [Act.put])
  go_wp2
  refine HK _ _ (fun _ => HS.out) ?_
  clear HK
  refine wpAnyE_done (by kernel_rfl) ?_
  have sa_ := SA.out.c5
  have sb_ := SB.out.c5
  go_wp2
  refine bodyPost_ret (v := .tuple #[.agg #[.int .i64 t.b.x, .int .i64 t.b.y, .int .i64 t.b.d, .int .i64 t.b.u, .int .i64 t.b.v], .agg #[.int .i64 t.c.x, .int .i64 t.c.y, .int .i64 t.c.d, .int .i64 t.c.u, .int .i64 t.c.v]]) (by simp [results, Tryd.results54, go_sem, *]) rfl ⟨rfl, ?_⟩
  exact HB.out

set_option maxRecDepth 100000 in
set_option maxHeartbeats 16000000 in
theorem side1_any (t : T3) (w : World) : Calls Tryd.prog 54 #[.agg #[.int .i64 t.a.x, .int .i64 t.a.y, .int .i64 t.a.d, .int .i64 t.a.u, .int .i64 t.a.v, .int .i64 t.b.x, .int .i64 t.b.y, .int .i64 t.b.d, .int .i64 t.b.u, .int .i64 t.b.v, .int .i64 t.c.x, .int .i64 t.c.y, .int .i64 t.c.d, .int .i64 t.c.u, .int .i64 t.c.v], .int .i64 1] w fun e w' => e = .returned (.tuple #[.agg #[.int .i64 t.c.x, .int .i64 t.c.y, .int .i64 t.c.d, .int .i64 t.c.u, .int .i64 t.c.v], .agg #[.int .i64 t.a.x, .int .i64 t.a.y, .int .i64 t.a.d, .int .i64 t.a.u, .int .i64 t.a.v]]) ∧ Below w.heap.size w w' := by
  obtain ⟨v0, hv0, BT, SA, SB, HB⟩ := lay3 w 87 #[.int .i64 t.a.x, .int .i64 t.a.y, .int .i64 t.a.d, .int .i64 t.a.u, .int .i64 t.a.v, .int .i64 t.b.x, .int .i64 t.b.y, .int .i64 t.b.d, .int .i64 t.b.u, .int .i64 t.b.v, .int .i64 t.c.x, .int .i64 t.c.y, .int .i64 t.c.d, .int .i64 t.c.u, .int .i64 t.c.v] 86 #[.int .i64 0, .int .i64 0, .int .i64 0, .int .i64 0, .int .i64 0] 86 #[.int .i64 0, .int .i64 0, .int .i64 0, .int .i64 0, .int .i64 0]
  go_enter Tryd.func54, Tryd.ntmps54
  go_upto_region 1 with fail
  rw [← hv0.out]
  clear hv0
  have wz1 : IntKind.i64.wrap 1 = 1 := by decide
  have wz2 : IntKind.i64.wrap 2 = 2 := by decide
  have wz3 : IntKind.i64.wrap 3 = 3 := by decide
  have wz4 : IntKind.i64.wrap 4 = 4 := by decide
  have bd := (Below.refl v0.heap.size v0).drew
  replace BT := mB BT bd
  replace SA := mB SA bd
  replace SB := mB SB bd
  replace HB := mT HB bd
  clear bd
  obtain ⟨SS, hSS⟩ : ∃ SS : World → Prop, SS = (fun Wo => HasBlk Wo w.heap.size 87 #[.int .i64 t.a.x, .int .i64 t.a.y, .int .i64 t.a.d, .int .i64 t.a.u, .int .i64 t.a.v, .int .i64 t.b.x, .int .i64 t.b.y, .int .i64 t.b.d, .int .i64 t.b.u, .int .i64 t.b.v, .int .i64 t.c.x, .int .i64 t.c.y, .int .i64 t.c.d, .int .i64 t.c.u, .int .i64 t.c.v]) := ⟨_, rfl⟩
  have HSS := Lib.hid hSS
  clear hSS
  have HS := Lib.hid (show SS v0.drew by rw [HSS.out]; exact BT.out)
  refine wp_region_E SS 99 (by kernel_rfl) ?_
  generalize gwd : v0.drew = z0 at *
  clear gwd
  refine wpAnyE_takeA (i := 0) (v := .int .i64 1) rfl (by kernel_rfl) (fun _ _ _ h => h) (.inl ⟨by first | kernel_rfl | rfl, fun W hW => by go_simp⟩) HS.out ?_
  simp only [Act.put, List.setIfInBounds_toArray]
  refine wpAnyE_takeA (i := 1) (v := .int .i64 2) rfl (by kernel_rfl) (fun _ _ _ h => h) (.inl ⟨by first | kernel_rfl | rfl, fun W hW => by go_simp⟩) HS.out ?_
  simp only [Act.put]
  refine wpAnyE_takeA (i := 2) (v := .int .i64 2) rfl (by kernel_rfl) (fun _ _ _ h => h) (.inl ⟨by first | kernel_rfl | rfl, fun W hW => by go_simp⟩) HS.out ?_
  simp only [Act.put]
  refine wpAnyE_takeA (i := 3) (v := .pointer (some ⟨w.heap.size, 10, none⟩)) rfl (by kernel_rfl) (fun _ _ _ h => h) (.inl ⟨by first | kernel_rfl | rfl, fun W hW => by go_simp⟩) HS.out ?_
  simp only [Act.put]
  refine wpAnyE_takeA (i := 4) (v := .agg #[.int .i64 t.c.x, .int .i64 t.c.y, .int .i64 t.c.d, .int .i64 t.c.u, .int .i64 t.c.v]) rfl (by kernel_rfl) (fun _ _ _ h => h) (.inl ⟨by first | kernel_rfl | rfl, fun W hW => ?_⟩) HS.out ?_
  · rw [HSS.out] at hW
    have hWBT := hW
    have qBT0 := hWBT.cell 0
    have qBT1 := hWBT.cell 1
    have qBT2 := hWBT.cell 2
    have qBT3 := hWBT.cell 3
    have qBT4 := hWBT.cell 4
    have qBT5 := hWBT.cell 5
    have qBT6 := hWBT.cell 6
    have qBT7 := hWBT.cell 7
    have qBT8 := hWBT.cell 8
    have qBT9 := hWBT.cell 9
    have qBT10 := hWBT.cell 10
    have qBT11 := hWBT.cell 11
    have qBT12 := hWBT.cell 12
    have qBT13 := hWBT.cell 13
    have qBT14 := hWBT.cell 14
    have qzBT := hWBT.lt
    simp at qBT0 qBT1 qBT2 qBT3 qBT4 qBT5 qBT6 qBT7 qBT8 qBT9 qBT10 qBT11 qBT12 qBT13 qBT14
    go_simp
  simp only [Act.put]
  refine wpAnyE_takeA (i := 5) (v := .int .i64 1) rfl (by kernel_rfl) (fun _ _ _ h => h) (.inl ⟨by first | kernel_rfl | rfl, fun W hW => by go_simp⟩) HS.out ?_
  simp only [Act.put]
  refine wpAnyE_takeA (i := 6) (v := .int .i64 3) rfl (by kernel_rfl) (fun _ _ _ h => h) (.inl ⟨by first | kernel_rfl | rfl, fun W hW => by go_simp⟩) HS.out ?_
  simp only [Act.put]
  refine wpAnyE_takeA (i := 7) (v := .int .i64 0) rfl (by kernel_rfl) (fun _ _ _ h => h) (.inl ⟨by first | kernel_rfl | rfl, fun W hW => by go_simp⟩) HS.out ?_
  simp only [Act.put]
  refine wpAnyE_takeA (i := 8) (v := .pointer (some ⟨w.heap.size, 0, none⟩)) rfl (by kernel_rfl) (fun _ _ _ h => h) (.inl ⟨by first | kernel_rfl | rfl, fun W hW => by go_simp⟩) HS.out ?_
  simp only [Act.put]
  refine wpAnyE_takeA (i := 9) (v := .agg #[.int .i64 t.a.x, .int .i64 t.a.y, .int .i64 t.a.d, .int .i64 t.a.u, .int .i64 t.a.v]) rfl (by kernel_rfl) (fun _ _ _ h => h) (.inl ⟨by first | kernel_rfl | rfl, fun W hW => ?_⟩) HS.out ?_
  · rw [HSS.out] at hW
    have hWBT := hW
    have qBT0 := hWBT.cell 0
    have qBT1 := hWBT.cell 1
    have qBT2 := hWBT.cell 2
    have qBT3 := hWBT.cell 3
    have qBT4 := hWBT.cell 4
    have qBT5 := hWBT.cell 5
    have qBT6 := hWBT.cell 6
    have qBT7 := hWBT.cell 7
    have qBT8 := hWBT.cell 8
    have qBT9 := hWBT.cell 9
    have qBT10 := hWBT.cell 10
    have qBT11 := hWBT.cell 11
    have qBT12 := hWBT.cell 12
    have qBT13 := hWBT.cell 13
    have qBT14 := hWBT.cell 14
    have qzBT := hWBT.lt
    simp at qBT0 qBT1 qBT2 qBT3 qBT4 qBT5 qBT6 qBT7 qBT8 qBT9 qBT10 qBT11 qBT12 qBT13 qBT14
    go_simp
  simp only [Act.put]
  have LSA := Lib.hid (show w.heap.size ≤ w.heap.size + 1 by omega)
  have LSB := Lib.hid (show w.heap.size ≤ w.heap.size + 1 + 1 by omega)
  refine wpAnyE_step (i := 10) rfl (by kernel_rfl) (fun KQ HK => ?_)
  (try go_simp)
  refine wpList_storeB rfl 86 _ _ rfl _ _ _ rfl rfl (by kernel_rfl) SA.out rfl (by simp [Value.oneCell']) ?_
  intro ya hSt hgr
  have hl1 := LSA.out
  replace BT := Lib.hid (BT.out.grown hgr (fun e => by injection e with e; omega))
  replace SB := Lib.hid (SB.out.grown hgr (fun e => by injection e with e; omega))
  replace SA := Lib.hid hSt
  replace HB := Lib.hid (HB.out.grown hgr HB.out.size (fun k hk => by injection hk with hk; omega))
  clear HS hl1 hSt hgr
  have HS := Lib.hid (show SS ya by rw [HSS.out]; exact BT.out)
  (try simp only [Act.put])
  go_wp2
  refine HK _ _ (fun _ => HS.out) ?_
  clear HK
  refine wpAnyE_step (i := 11) rfl (by kernel_rfl) (fun KQ HK => ?_)
  (try go_simp)
  refine wpList_storeB rfl 86 _ _ rfl _ _ _ rfl rfl (by kernel_rfl) SB.out rfl (by simp [Value.oneCell']) ?_
  intro yb hSt hgr
  have hl1 := LSB.out
  replace BT := Lib.hid (BT.out.grown hgr (fun e => by injection e with e; omega))
  replace SA := Lib.hid (SA.out.grown hgr (fun e => by injection e with e; omega))
  replace SB := Lib.hid hSt
  replace HB := Lib.hid (HB.out.grown hgr HB.out.size (fun k hk => by injection hk with hk; omega))
  clear HS hl1 hSt hgr
  have HS := Lib.hid (show SS yb by rw [HSS.out]; exact BT.out)
  (try simp only [Act.put])
  go_wp2
  refine HK _ _ (fun _ => HS.out) ?_
  clear HK
  refine wpAnyE_done (by kernel_rfl) ?_
  have sa_ := SA.out.c5
  have sb_ := SB.out.c5
  go_wp2
  refine bodyPost_ret (v := .tuple #[.agg #[.int .i64 t.c.x, .int .i64 t.c.y, .int .i64 t.c.d, .int .i64 t.c.u, .int .i64 t.c.v], .agg #[.int .i64 t.a.x, .int .i64 t.a.y, .int .i64 t.a.d, .int .i64 t.a.u, .int .i64 t.a.v]]) (by simp [results, Tryd.results54, go_sem, *]) rfl ⟨rfl, ?_⟩
  exact HB.out

set_option maxRecDepth 100000 in
set_option maxHeartbeats 16000000 in
theorem side2_any (t : T3) (w : World) : Calls Tryd.prog 54 #[.agg #[.int .i64 t.a.x, .int .i64 t.a.y, .int .i64 t.a.d, .int .i64 t.a.u, .int .i64 t.a.v, .int .i64 t.b.x, .int .i64 t.b.y, .int .i64 t.b.d, .int .i64 t.b.u, .int .i64 t.b.v, .int .i64 t.c.x, .int .i64 t.c.y, .int .i64 t.c.d, .int .i64 t.c.u, .int .i64 t.c.v], .int .i64 2] w fun e w' => e = .returned (.tuple #[.agg #[.int .i64 t.a.x, .int .i64 t.a.y, .int .i64 t.a.d, .int .i64 t.a.u, .int .i64 t.a.v], .agg #[.int .i64 t.b.x, .int .i64 t.b.y, .int .i64 t.b.d, .int .i64 t.b.u, .int .i64 t.b.v]]) ∧ Below w.heap.size w w' := by
  obtain ⟨v0, hv0, BT, SA, SB, HB⟩ := lay3 w 87 #[.int .i64 t.a.x, .int .i64 t.a.y, .int .i64 t.a.d, .int .i64 t.a.u, .int .i64 t.a.v, .int .i64 t.b.x, .int .i64 t.b.y, .int .i64 t.b.d, .int .i64 t.b.u, .int .i64 t.b.v, .int .i64 t.c.x, .int .i64 t.c.y, .int .i64 t.c.d, .int .i64 t.c.u, .int .i64 t.c.v] 86 #[.int .i64 0, .int .i64 0, .int .i64 0, .int .i64 0, .int .i64 0] 86 #[.int .i64 0, .int .i64 0, .int .i64 0, .int .i64 0, .int .i64 0]
  go_enter Tryd.func54, Tryd.ntmps54
  go_upto_region 1 with fail
  rw [← hv0.out]
  clear hv0
  have wz1 : IntKind.i64.wrap 1 = 1 := by decide
  have wz2 : IntKind.i64.wrap 2 = 2 := by decide
  have wz3 : IntKind.i64.wrap 3 = 3 := by decide
  have wz4 : IntKind.i64.wrap 4 = 4 := by decide
  have bd := (Below.refl v0.heap.size v0).drew
  replace BT := mB BT bd
  replace SA := mB SA bd
  replace SB := mB SB bd
  replace HB := mT HB bd
  clear bd
  obtain ⟨SS, hSS⟩ : ∃ SS : World → Prop, SS = (fun Wo => HasBlk Wo w.heap.size 87 #[.int .i64 t.a.x, .int .i64 t.a.y, .int .i64 t.a.d, .int .i64 t.a.u, .int .i64 t.a.v, .int .i64 t.b.x, .int .i64 t.b.y, .int .i64 t.b.d, .int .i64 t.b.u, .int .i64 t.b.v, .int .i64 t.c.x, .int .i64 t.c.y, .int .i64 t.c.d, .int .i64 t.c.u, .int .i64 t.c.v]) := ⟨_, rfl⟩
  have HSS := Lib.hid hSS
  clear hSS
  have HS := Lib.hid (show SS v0.drew by rw [HSS.out]; exact BT.out)
  refine wp_region_E SS 99 (by kernel_rfl) ?_
  generalize gwd : v0.drew = z0 at *
  clear gwd
  refine wpAnyE_takeA (i := 0) (v := .int .i64 2) rfl (by kernel_rfl) (fun _ _ _ h => h) (.inl ⟨by first | kernel_rfl | rfl, fun W hW => by go_simp⟩) HS.out ?_
  simp only [Act.put, List.setIfInBounds_toArray]
  refine wpAnyE_takeA (i := 1) (v := .int .i64 3) rfl (by kernel_rfl) (fun _ _ _ h => h) (.inl ⟨by first | kernel_rfl | rfl, fun W hW => by go_simp⟩) HS.out ?_
  simp only [Act.put]
  refine wpAnyE_takeA (i := 2) (v := .int .i64 0) rfl (by kernel_rfl) (fun _ _ _ h => h) (.inl ⟨by first | kernel_rfl | rfl, fun W hW => by go_simp⟩) HS.out ?_
  simp only [Act.put]
  refine wpAnyE_takeA (i := 3) (v := .pointer (some ⟨w.heap.size, 0, none⟩)) rfl (by kernel_rfl) (fun _ _ _ h => h) (.inl ⟨by first | kernel_rfl | rfl, fun W hW => by go_simp⟩) HS.out ?_
  simp only [Act.put]
  refine wpAnyE_takeA (i := 4) (v := .agg #[.int .i64 t.a.x, .int .i64 t.a.y, .int .i64 t.a.d, .int .i64 t.a.u, .int .i64 t.a.v]) rfl (by kernel_rfl) (fun _ _ _ h => h) (.inl ⟨by first | kernel_rfl | rfl, fun W hW => ?_⟩) HS.out ?_
  · rw [HSS.out] at hW
    have hWBT := hW
    have qBT0 := hWBT.cell 0
    have qBT1 := hWBT.cell 1
    have qBT2 := hWBT.cell 2
    have qBT3 := hWBT.cell 3
    have qBT4 := hWBT.cell 4
    have qBT5 := hWBT.cell 5
    have qBT6 := hWBT.cell 6
    have qBT7 := hWBT.cell 7
    have qBT8 := hWBT.cell 8
    have qBT9 := hWBT.cell 9
    have qBT10 := hWBT.cell 10
    have qBT11 := hWBT.cell 11
    have qBT12 := hWBT.cell 12
    have qBT13 := hWBT.cell 13
    have qBT14 := hWBT.cell 14
    have qzBT := hWBT.lt
    simp at qBT0 qBT1 qBT2 qBT3 qBT4 qBT5 qBT6 qBT7 qBT8 qBT9 qBT10 qBT11 qBT12 qBT13 qBT14
    go_simp
  simp only [Act.put]
  refine wpAnyE_takeA (i := 5) (v := .int .i64 2) rfl (by kernel_rfl) (fun _ _ _ h => h) (.inl ⟨by first | kernel_rfl | rfl, fun W hW => by go_simp⟩) HS.out ?_
  simp only [Act.put]
  refine wpAnyE_takeA (i := 6) (v := .int .i64 4) rfl (by kernel_rfl) (fun _ _ _ h => h) (.inl ⟨by first | kernel_rfl | rfl, fun W hW => by go_simp⟩) HS.out ?_
  simp only [Act.put]
  refine wpAnyE_takeA (i := 7) (v := .int .i64 1) rfl (by kernel_rfl) (fun _ _ _ h => h) (.inl ⟨by first | kernel_rfl | rfl, fun W hW => by go_simp⟩) HS.out ?_
  simp only [Act.put]
  refine wpAnyE_takeA (i := 8) (v := .pointer (some ⟨w.heap.size, 5, none⟩)) rfl (by kernel_rfl) (fun _ _ _ h => h) (.inl ⟨by first | kernel_rfl | rfl, fun W hW => by go_simp⟩) HS.out ?_
  simp only [Act.put]
  refine wpAnyE_takeA (i := 9) (v := .agg #[.int .i64 t.b.x, .int .i64 t.b.y, .int .i64 t.b.d, .int .i64 t.b.u, .int .i64 t.b.v]) rfl (by kernel_rfl) (fun _ _ _ h => h) (.inl ⟨by first | kernel_rfl | rfl, fun W hW => ?_⟩) HS.out ?_
  · rw [HSS.out] at hW
    have hWBT := hW
    have qBT0 := hWBT.cell 0
    have qBT1 := hWBT.cell 1
    have qBT2 := hWBT.cell 2
    have qBT3 := hWBT.cell 3
    have qBT4 := hWBT.cell 4
    have qBT5 := hWBT.cell 5
    have qBT6 := hWBT.cell 6
    have qBT7 := hWBT.cell 7
    have qBT8 := hWBT.cell 8
    have qBT9 := hWBT.cell 9
    have qBT10 := hWBT.cell 10
    have qBT11 := hWBT.cell 11
    have qBT12 := hWBT.cell 12
    have qBT13 := hWBT.cell 13
    have qBT14 := hWBT.cell 14
    have qzBT := hWBT.lt
    simp at qBT0 qBT1 qBT2 qBT3 qBT4 qBT5 qBT6 qBT7 qBT8 qBT9 qBT10 qBT11 qBT12 qBT13 qBT14
    go_simp
  simp only [Act.put]
  have LSA := Lib.hid (show w.heap.size ≤ w.heap.size + 1 by omega)
  have LSB := Lib.hid (show w.heap.size ≤ w.heap.size + 1 + 1 by omega)
  refine wpAnyE_step (i := 10) rfl (by kernel_rfl) (fun KQ HK => ?_)
  (try go_simp)
  refine wpList_storeB rfl 86 _ _ rfl _ _ _ rfl rfl (by kernel_rfl) SA.out rfl (by simp [Value.oneCell']) ?_
  intro ya hSt hgr
  have hl1 := LSA.out
  replace BT := Lib.hid (BT.out.grown hgr (fun e => by injection e with e; omega))
  replace SB := Lib.hid (SB.out.grown hgr (fun e => by injection e with e; omega))
  replace SA := Lib.hid hSt
  replace HB := Lib.hid (HB.out.grown hgr HB.out.size (fun k hk => by injection hk with hk; omega))
  clear HS hl1 hSt hgr
  have HS := Lib.hid (show SS ya by rw [HSS.out]; exact BT.out)
  (try simp only [Act.put])
  go_wp2
  refine HK _ _ (fun _ => HS.out) ?_
  clear HK
  refine wpAnyE_step (i := 11) rfl (by kernel_rfl) (fun KQ HK => ?_)
  (try go_simp)
  refine wpList_storeB rfl 86 _ _ rfl _ _ _ rfl rfl (by kernel_rfl) SB.out rfl (by simp [Value.oneCell']) ?_
  intro yb hSt hgr
  have hl1 := LSB.out
  replace BT := Lib.hid (BT.out.grown hgr (fun e => by injection e with e; omega))
  replace SA := Lib.hid (SA.out.grown hgr (fun e => by injection e with e; omega))
  replace SB := Lib.hid hSt
  replace HB := Lib.hid (HB.out.grown hgr HB.out.size (fun k hk => by injection hk with hk; omega))
  clear HS hl1 hSt hgr
  have HS := Lib.hid (show SS yb by rw [HSS.out]; exact BT.out)
  (try simp only [Act.put])
  go_wp2
  refine HK _ _ (fun _ => HS.out) ?_
  clear HK
  refine wpAnyE_done (by kernel_rfl) ?_
  have sa_ := SA.out.c5
  have sb_ := SB.out.c5
  go_wp2
  refine bodyPost_ret (v := .tuple #[.agg #[.int .i64 t.a.x, .int .i64 t.a.y, .int .i64 t.a.d, .int .i64 t.a.u, .int .i64 t.a.v], .agg #[.int .i64 t.b.x, .int .i64 t.b.y, .int .i64 t.b.d, .int .i64 t.b.u, .int .i64 t.b.v]]) (by simp [results, Tryd.results54, go_sem, *]) rfl ⟨rfl, ?_⟩
  exact HB.out

set_option maxRecDepth 100000 in
set_option maxHeartbeats 32000000 in
theorem edges_ok (t : T3) (x y : Int) (ht : t.Ok) (ha : 0 < t.area) (hp : Pix x y) (w : World) : Calls Tryd.prog 35 #[.agg #[.int .i64 t.a.x, .int .i64 t.a.y, .int .i64 t.a.d, .int .i64 t.a.u, .int .i64 t.a.v, .int .i64 t.b.x, .int .i64 t.b.y, .int .i64 t.b.d, .int .i64 t.b.u, .int .i64 t.b.v, .int .i64 t.c.x, .int .i64 t.c.y, .int .i64 t.c.d, .int .i64 t.c.u, .int .i64 t.c.v], .int .i64 x, .int .i64 y] w fun e w' => e = .returned (.tuple #[.agg #[.int .i64 ((S5.w t.b t.c x y)), .int .i64 ((S5.w t.c t.a x y)), .int .i64 ((S5.w t.a t.b x y))], .int .i64 0]) ∧ Below w.heap.size w w' := by
  have HT := Lib.hid ht
  have HA := Lib.hid ha
  have HP := Lib.hid hp
  clear ht ha hp
  obtain ⟨v0, hv0, BT, BW_, HB⟩ := lay2 w 87 #[.int .i64 t.a.x, .int .i64 t.a.y, .int .i64 t.a.d, .int .i64 t.a.u, .int .i64 t.a.v, .int .i64 t.b.x, .int .i64 t.b.y, .int .i64 t.b.d, .int .i64 t.b.u, .int .i64 t.b.v, .int .i64 t.c.x, .int .i64 t.c.y, .int .i64 t.c.d, .int .i64 t.c.u, .int .i64 t.c.v] 28 #[.int .i64 0, .int .i64 0, .int .i64 0]
  go_enter Tryd.func35, Tryd.ntmps35
  go_upto_region 1 with fail
  rw [← hv0.out]
  clear hv0
  have bt_ := BT.out.c15
  have KX := Lib.hid (efront_ok t HT.out HA.out v0)
  go_wp2_with fail
  refine KX.out.mono ?_
  rintro e v1 ⟨rfl, bel⟩
  clear KX
  clear bt_
  replace BT := mB BT bel
  replace BW_ := mB BW_ bel
  replace HB := mT HB bel
  clear bel
  have KX := Lib.hid (pixel_ok x y HP.out v1)
  go_wp2_with fail
  refine KX.out.mono ?_
  rintro e v2 ⟨rfl, bel⟩
  clear KX
  replace BT := mB BT bel
  replace BW_ := mB BW_ bel
  replace HB := mT HB bel
  clear bel
  go_wp2
  go_loopw [23] (fun s23 wr => RowKit.Hid ((s23 = .int .i64 (0 : Nat) ∧ HasBlk wr w.heap.size 87 #[.int .i64 t.a.x, .int .i64 t.a.y, .int .i64 t.a.d, .int .i64 t.a.u, .int .i64 t.a.v, .int .i64 t.b.x, .int .i64 t.b.y, .int .i64 t.b.d, .int .i64 t.b.u, .int .i64 t.b.v, .int .i64 t.c.x, .int .i64 t.c.y, .int .i64 t.c.d, .int .i64 t.c.u, .int .i64 t.c.v] ∧ HasBlk wr (w.heap.size + 1) 28 #[.int .i64 0, .int .i64 0, .int .i64 0] ∧ Below w.heap.size w wr) ∨ ((s23 = .int .i64 (1 : Nat) ∧ HasBlk wr w.heap.size 87 #[.int .i64 t.a.x, .int .i64 t.a.y, .int .i64 t.a.d, .int .i64 t.a.u, .int .i64 t.a.v, .int .i64 t.b.x, .int .i64 t.b.y, .int .i64 t.b.d, .int .i64 t.b.u, .int .i64 t.b.v, .int .i64 t.c.x, .int .i64 t.c.y, .int .i64 t.c.d, .int .i64 t.c.u, .int .i64 t.c.v] ∧ HasBlk wr (w.heap.size + 1) 28 #[.int .i64 ((S5.w t.b t.c x y)), .int .i64 0, .int .i64 0] ∧ Below w.heap.size w wr) ∨ ((s23 = .int .i64 (2 : Nat) ∧ HasBlk wr w.heap.size 87 #[.int .i64 t.a.x, .int .i64 t.a.y, .int .i64 t.a.d, .int .i64 t.a.u, .int .i64 t.a.v, .int .i64 t.b.x, .int .i64 t.b.y, .int .i64 t.b.d, .int .i64 t.b.u, .int .i64 t.b.v, .int .i64 t.c.x, .int .i64 t.c.y, .int .i64 t.c.d, .int .i64 t.c.u, .int .i64 t.c.v] ∧ HasBlk wr (w.heap.size + 1) 28 #[.int .i64 ((S5.w t.b t.c x y)), .int .i64 ((S5.w t.c t.a x y)), .int .i64 0] ∧ Below w.heap.size w wr) ∨ ((s23 = .int .i64 (3 : Nat) ∧ HasBlk wr w.heap.size 87 #[.int .i64 t.a.x, .int .i64 t.a.y, .int .i64 t.a.d, .int .i64 t.a.u, .int .i64 t.a.v, .int .i64 t.b.x, .int .i64 t.b.y, .int .i64 t.b.d, .int .i64 t.b.u, .int .i64 t.b.v, .int .i64 t.c.x, .int .i64 t.c.y, .int .i64 t.c.d, .int .i64 t.c.u, .int .i64 t.c.v] ∧ HasBlk wr (w.heap.size + 1) 28 #[.int .i64 ((S5.w t.b t.c x y)), .int .i64 ((S5.w t.c t.a x y)), .int .i64 ((S5.w t.a t.b x y))] ∧ Below w.heap.size w wr)))))) (fun s23 wr => 3 - (intOf s23).toNat)
  case atStart => exact Lib.hid (.inl ⟨rfl, BT.out, BW_.out, HB.out⟩)
  case round =>
    clear BT BW_ HB
    rcases hrel.out with ⟨rfl, qBT, qBW_, qHB⟩ | ⟨rfl, qBT, qBW_, qHB⟩ | ⟨rfl, qBT, qBW_, qHB⟩ | ⟨rfl, qBT, qBW_, qHB⟩
    · have BT := Lib.hid qBT
      have BW_ := Lib.hid qBW_
      have HB := Lib.hid qHB
      clear qBT qBW_ qHB
      have bt_ := BT.out.c15
      have KX := Lib.hid (side0_any t wr)
      go_wp2_with fail
      refine KX.out.mono ?_
      rintro e u1 ⟨rfl, bel⟩
      clear KX
      clear bt_
      replace BT := mB BT bel
      replace BW_ := mB BW_ bel
      replace HB := mT HB bel
      clear bel
      go_upto_region 10 with fail
      obtain ⟨u2, hz, SA, SB, bA⟩ := lay2 u1 86 #[.int .i64 t.b.x, .int .i64 t.b.y, .int .i64 t.b.d, .int .i64 t.b.u, .int .i64 t.b.v] 86 #[.int .i64 t.c.x, .int .i64 t.c.y, .int .i64 t.c.d, .int .i64 t.c.u, .int .i64 t.c.v]
      rw [← hz.out]
      obtain ⟨xa, hxa⟩ : ∃ xa, xa = u1.heap.size := ⟨_, rfl⟩
      rw [← hxa] at SA SB ⊢
      replace BT := mB BT bA.out
      replace BW_ := mB BW_ bA.out
      replace HB := mT HB bA.out
      clear bA hz hxa
      have wb := S5.w_bd (x := x) (y := y) HT.out.2.1 HT.out.2.2 HP.out
      have hp := HT.out.2.1
      have hq := HT.out.2.2
      have hx := HP.out
      unfold S5.Ok Wi at hp hq
      unfold Pix at hx
      have w1 : IntKind.i64.wrap (t.c.x - t.b.x) = (t.c.x - t.b.x) := IntWalk.i64_in _ (by omega)
      have w2 : IntKind.i64.wrap (8 * y + 4 - t.b.y) = (8 * y + 4 - t.b.y) := IntWalk.i64_in _ (by omega)
      have w3 : IntKind.i64.wrap ((t.c.x - t.b.x) * (8 * y + 4 - t.b.y)) = ((t.c.x - t.b.x) * (8 * y + 4 - t.b.y)) := IntWalk.i64_in _ (by omega)
      have w4 : IntKind.i64.wrap (8 * x + 4 - t.b.x) = (8 * x + 4 - t.b.x) := IntWalk.i64_in _ (by omega)
      have w5 : IntKind.i64.wrap (t.c.y - t.b.y) = (t.c.y - t.b.y) := IntWalk.i64_in _ (by omega)
      have w6 : IntKind.i64.wrap ((8 * x + 4 - t.b.x) * (t.c.y - t.b.y)) = ((8 * x + 4 - t.b.x) * (t.c.y - t.b.y)) := IntWalk.i64_in _ (by omega)
      have w7 : IntKind.i64.wrap (((t.c.x - t.b.x) * (8 * y + 4 - t.b.y)) - ((8 * x + 4 - t.b.x) * (t.c.y - t.b.y))) = (((t.c.x - t.b.x) * (8 * y + 4 - t.b.y)) - ((8 * x + 4 - t.b.x) * (t.c.y - t.b.y))) := IntWalk.i64_in _ (by omega)
      clear wb hp hq
      have M1 := Lib.hid (fun W => middle_any y (by omega) W)
      have M2 := Lib.hid (fun W => middle_any x (by omega) W)
      clear hx
      have e0 := fun pb : BW u2 => BW.cell (SA.out.at 0 rfl) SA.out.lt pb
      have e1 := fun pb : BW u2 => BW.cell (SA.out.at 1 rfl) SA.out.lt pb
      have e2 := fun pb : BW u2 => BW.cell (SB.out.at 0 rfl) SB.out.lt pb
      have e3 := fun pb : BW u2 => BW.cell (SB.out.at 1 rfl) SB.out.lt pb
      have k1 := Lib.hid (fun pb : BW u2 => BW.call (v := .int .i64 (8 * y + 4)) (fun W' (h : Below u2.heap.size u2 W') => M1.out W') pb)
      have k2 := Lib.hid (fun pb : BW u2 => BW.call (v := .int .i64 (8 * x + 4)) (fun W' (h : Below u2.heap.size u2 W') => M2.out W') pb)
      refine wp_region_bw_tail 25 (by kernel_rfl) (by kernel_rfl) ?_
      simp only [List.take_succ_cons, List.take_zero, List.drop_succ_cons, List.drop_zero]
      repeat (go_big_quiet_step ((first | (go_at_call 57; with_reducible exact k1.out _) | (go_at_call 57; with_reducible exact k2.out _))))
      refine wpQuiet_nil ?_
      intro _ hw'
      obtain ⟨pq, hw''⟩ := hw'
      subst hw''
      clear e0 e1 e2 e3 k1 k2
      replace BT := mB BT pq.h
      replace BW_ := mB BW_ pq.h
      replace SA := mB SA pq.h
      replace SB := mB SB pq.h
      replace HB := mT HB pq.h
      generalize pq.W = u3 at *
      clear pq
      clear SA SB
      have bw__ := BW_.out.f3
      go_wp2
      clear bw__
      have qBT := BT.out.far (p := ⟨(w.heap.size + 1), 0, none⟩) (by first | omega | (simp; done) | (simp; omega)) (.int .i64 ((((t.c.x - t.b.x) * (8 * y + 4 - t.b.y)) - ((8 * x + 4 - t.b.x) * (t.c.y - t.b.y)))))
      have qBW_ : HasBlk (u3.setCell ⟨w.heap.size + 1, 0, none⟩ (.int .i64 ((((t.c.x - t.b.x) * (8 * y + 4 - t.b.y)) - ((8 * x + 4 - t.b.x) * (t.c.y - t.b.y)))))) (w.heap.size + 1) 28 #[.int .i64 ((((t.c.x - t.b.x) * (8 * y + 4 - t.b.y)) - ((8 * x + 4 - t.b.x) * (t.c.y - t.b.y)))), .int .i64 0, .int .i64 0] := by simpa using BW_.out.set 0 (.int .i64 ((((t.c.x - t.b.x) * (8 * y + 4 - t.b.y)) - ((8 * x + 4 - t.b.x) * (t.c.y - t.b.y)))))
      have qHB := Below.setCell (p := ⟨(w.heap.size + 1), 0, none⟩) HB.out (by show w.heap.size ≤ (w.heap.size + 1); omega) (.int .i64 ((((t.c.x - t.b.x) * (8 * y + 4 - t.b.y)) - ((8 * x + 4 - t.b.x) * (t.c.y - t.b.y)))))
      generalize (u3.setCell ⟨w.heap.size + 1, 0, none⟩ (.int .i64 ((((t.c.x - t.b.x) * (8 * y + 4 - t.b.y)) - ((8 * x + 4 - t.b.x) * (t.c.y - t.b.y)))))) = u4 at *
      go_roundw
      case rel => exact Lib.hid (.inr ((.inl ⟨by go_num, qBT, qBW_, qHB⟩)))
      case measure => simp [intOf]
    · have BT := Lib.hid qBT
      have BW_ := Lib.hid qBW_
      have HB := Lib.hid qHB
      clear qBT qBW_ qHB
      have bt_ := BT.out.c15
      have KX := Lib.hid (side1_any t wr)
      go_wp2_with fail
      refine KX.out.mono ?_
      rintro e u1 ⟨rfl, bel⟩
      clear KX
      clear bt_
      replace BT := mB BT bel
      replace BW_ := mB BW_ bel
      replace HB := mT HB bel
      clear bel
      go_upto_region 10 with fail
      obtain ⟨u2, hz, SA, SB, bA⟩ := lay2 u1 86 #[.int .i64 t.c.x, .int .i64 t.c.y, .int .i64 t.c.d, .int .i64 t.c.u, .int .i64 t.c.v] 86 #[.int .i64 t.a.x, .int .i64 t.a.y, .int .i64 t.a.d, .int .i64 t.a.u, .int .i64 t.a.v]
      rw [← hz.out]
      obtain ⟨xa, hxa⟩ : ∃ xa, xa = u1.heap.size := ⟨_, rfl⟩
      rw [← hxa] at SA SB ⊢
      replace BT := mB BT bA.out
      replace BW_ := mB BW_ bA.out
      replace HB := mT HB bA.out
      clear bA hz hxa
      have wb := S5.w_bd (x := x) (y := y) HT.out.2.2 HT.out.1 HP.out
      have hp := HT.out.2.2
      have hq := HT.out.1
      have hx := HP.out
      unfold S5.Ok Wi at hp hq
      unfold Pix at hx
      have w1 : IntKind.i64.wrap (t.a.x - t.c.x) = (t.a.x - t.c.x) := IntWalk.i64_in _ (by omega)
      have w2 : IntKind.i64.wrap (8 * y + 4 - t.c.y) = (8 * y + 4 - t.c.y) := IntWalk.i64_in _ (by omega)
      have w3 : IntKind.i64.wrap ((t.a.x - t.c.x) * (8 * y + 4 - t.c.y)) = ((t.a.x - t.c.x) * (8 * y + 4 - t.c.y)) := IntWalk.i64_in _ (by omega)
      have w4 : IntKind.i64.wrap (8 * x + 4 - t.c.x) = (8 * x + 4 - t.c.x) := IntWalk.i64_in _ (by omega)
      have w5 : IntKind.i64.wrap (t.a.y - t.c.y) = (t.a.y - t.c.y) := IntWalk.i64_in _ (by omega)
      have w6 : IntKind.i64.wrap ((8 * x + 4 - t.c.x) * (t.a.y - t.c.y)) = ((8 * x + 4 - t.c.x) * (t.a.y - t.c.y)) := IntWalk.i64_in _ (by omega)
      have w7 : IntKind.i64.wrap (((t.a.x - t.c.x) * (8 * y + 4 - t.c.y)) - ((8 * x + 4 - t.c.x) * (t.a.y - t.c.y))) = (((t.a.x - t.c.x) * (8 * y + 4 - t.c.y)) - ((8 * x + 4 - t.c.x) * (t.a.y - t.c.y))) := IntWalk.i64_in _ (by omega)
      clear wb hp hq
      have M1 := Lib.hid (fun W => middle_any y (by omega) W)
      have M2 := Lib.hid (fun W => middle_any x (by omega) W)
      clear hx
      have e0 := fun pb : BW u2 => BW.cell (SA.out.at 0 rfl) SA.out.lt pb
      have e1 := fun pb : BW u2 => BW.cell (SA.out.at 1 rfl) SA.out.lt pb
      have e2 := fun pb : BW u2 => BW.cell (SB.out.at 0 rfl) SB.out.lt pb
      have e3 := fun pb : BW u2 => BW.cell (SB.out.at 1 rfl) SB.out.lt pb
      have k1 := Lib.hid (fun pb : BW u2 => BW.call (v := .int .i64 (8 * y + 4)) (fun W' (h : Below u2.heap.size u2 W') => M1.out W') pb)
      have k2 := Lib.hid (fun pb : BW u2 => BW.call (v := .int .i64 (8 * x + 4)) (fun W' (h : Below u2.heap.size u2 W') => M2.out W') pb)
      refine wp_region_bw_tail 25 (by kernel_rfl) (by kernel_rfl) ?_
      simp only [List.take_succ_cons, List.take_zero, List.drop_succ_cons, List.drop_zero]
      repeat (go_big_quiet_step ((first | (go_at_call 57; with_reducible exact k1.out _) | (go_at_call 57; with_reducible exact k2.out _))))
      refine wpQuiet_nil ?_
      intro _ hw'
      obtain ⟨pq, hw''⟩ := hw'
      subst hw''
      clear e0 e1 e2 e3 k1 k2
      replace BT := mB BT pq.h
      replace BW_ := mB BW_ pq.h
      replace SA := mB SA pq.h
      replace SB := mB SB pq.h
      replace HB := mT HB pq.h
      generalize pq.W = u3 at *
      clear pq
      clear SA SB
      have bw__ := BW_.out.f3
      go_wp2
      clear bw__
      have qBT := BT.out.far (p := ⟨(w.heap.size + 1), 1, none⟩) (by first | omega | (simp; done) | (simp; omega)) (.int .i64 ((((t.a.x - t.c.x) * (8 * y + 4 - t.c.y)) - ((8 * x + 4 - t.c.x) * (t.a.y - t.c.y)))))
      have qBW_ : HasBlk (u3.setCell ⟨w.heap.size + 1, 1, none⟩ (.int .i64 ((((t.a.x - t.c.x) * (8 * y + 4 - t.c.y)) - ((8 * x + 4 - t.c.x) * (t.a.y - t.c.y)))))) (w.heap.size + 1) 28 #[.int .i64 ((S5.w t.b t.c x y)), .int .i64 ((((t.a.x - t.c.x) * (8 * y + 4 - t.c.y)) - ((8 * x + 4 - t.c.x) * (t.a.y - t.c.y)))), .int .i64 0] := by simpa using BW_.out.set 1 (.int .i64 ((((t.a.x - t.c.x) * (8 * y + 4 - t.c.y)) - ((8 * x + 4 - t.c.x) * (t.a.y - t.c.y)))))
      have qHB := Below.setCell (p := ⟨(w.heap.size + 1), 1, none⟩) HB.out (by show w.heap.size ≤ (w.heap.size + 1); omega) (.int .i64 ((((t.a.x - t.c.x) * (8 * y + 4 - t.c.y)) - ((8 * x + 4 - t.c.x) * (t.a.y - t.c.y)))))
      generalize (u3.setCell ⟨w.heap.size + 1, 1, none⟩ (.int .i64 ((((t.a.x - t.c.x) * (8 * y + 4 - t.c.y)) - ((8 * x + 4 - t.c.x) * (t.a.y - t.c.y)))))) = u4 at *
      go_roundw
      case rel => exact Lib.hid (.inr (.inr ((.inl ⟨by go_num, qBT, qBW_, qHB⟩))))
      case measure => simp [intOf]
    · have BT := Lib.hid qBT
      have BW_ := Lib.hid qBW_
      have HB := Lib.hid qHB
      clear qBT qBW_ qHB
      have bt_ := BT.out.c15
      have KX := Lib.hid (side2_any t wr)
      go_wp2_with fail
      refine KX.out.mono ?_
      rintro e u1 ⟨rfl, bel⟩
      clear KX
      clear bt_
      replace BT := mB BT bel
      replace BW_ := mB BW_ bel
      replace HB := mT HB bel
      clear bel
      go_upto_region 10 with fail
      obtain ⟨u2, hz, SA, SB, bA⟩ := lay2 u1 86 #[.int .i64 t.a.x, .int .i64 t.a.y, .int .i64 t.a.d, .int .i64 t.a.u, .int .i64 t.a.v] 86 #[.int .i64 t.b.x, .int .i64 t.b.y, .int .i64 t.b.d, .int .i64 t.b.u, .int .i64 t.b.v]
      rw [← hz.out]
      obtain ⟨xa, hxa⟩ : ∃ xa, xa = u1.heap.size := ⟨_, rfl⟩
      rw [← hxa] at SA SB ⊢
      replace BT := mB BT bA.out
      replace BW_ := mB BW_ bA.out
      replace HB := mT HB bA.out
      clear bA hz hxa
      have wb := S5.w_bd (x := x) (y := y) HT.out.1 HT.out.2.1 HP.out
      have hp := HT.out.1
      have hq := HT.out.2.1
      have hx := HP.out
      unfold S5.Ok Wi at hp hq
      unfold Pix at hx
      have w1 : IntKind.i64.wrap (t.b.x - t.a.x) = (t.b.x - t.a.x) := IntWalk.i64_in _ (by omega)
      have w2 : IntKind.i64.wrap (8 * y + 4 - t.a.y) = (8 * y + 4 - t.a.y) := IntWalk.i64_in _ (by omega)
      have w3 : IntKind.i64.wrap ((t.b.x - t.a.x) * (8 * y + 4 - t.a.y)) = ((t.b.x - t.a.x) * (8 * y + 4 - t.a.y)) := IntWalk.i64_in _ (by omega)
      have w4 : IntKind.i64.wrap (8 * x + 4 - t.a.x) = (8 * x + 4 - t.a.x) := IntWalk.i64_in _ (by omega)
      have w5 : IntKind.i64.wrap (t.b.y - t.a.y) = (t.b.y - t.a.y) := IntWalk.i64_in _ (by omega)
      have w6 : IntKind.i64.wrap ((8 * x + 4 - t.a.x) * (t.b.y - t.a.y)) = ((8 * x + 4 - t.a.x) * (t.b.y - t.a.y)) := IntWalk.i64_in _ (by omega)
      have w7 : IntKind.i64.wrap (((t.b.x - t.a.x) * (8 * y + 4 - t.a.y)) - ((8 * x + 4 - t.a.x) * (t.b.y - t.a.y))) = (((t.b.x - t.a.x) * (8 * y + 4 - t.a.y)) - ((8 * x + 4 - t.a.x) * (t.b.y - t.a.y))) := IntWalk.i64_in _ (by omega)
      clear wb hp hq
      have M1 := Lib.hid (fun W => middle_any y (by omega) W)
      have M2 := Lib.hid (fun W => middle_any x (by omega) W)
      clear hx
      have e0 := fun pb : BW u2 => BW.cell (SA.out.at 0 rfl) SA.out.lt pb
      have e1 := fun pb : BW u2 => BW.cell (SA.out.at 1 rfl) SA.out.lt pb
      have e2 := fun pb : BW u2 => BW.cell (SB.out.at 0 rfl) SB.out.lt pb
      have e3 := fun pb : BW u2 => BW.cell (SB.out.at 1 rfl) SB.out.lt pb
      have k1 := Lib.hid (fun pb : BW u2 => BW.call (v := .int .i64 (8 * y + 4)) (fun W' (h : Below u2.heap.size u2 W') => M1.out W') pb)
      have k2 := Lib.hid (fun pb : BW u2 => BW.call (v := .int .i64 (8 * x + 4)) (fun W' (h : Below u2.heap.size u2 W') => M2.out W') pb)
      refine wp_region_bw_tail 25 (by kernel_rfl) (by kernel_rfl) ?_
      simp only [List.take_succ_cons, List.take_zero, List.drop_succ_cons, List.drop_zero]
      repeat (go_big_quiet_step ((first | (go_at_call 57; with_reducible exact k1.out _) | (go_at_call 57; with_reducible exact k2.out _))))
      refine wpQuiet_nil ?_
      intro _ hw'
      obtain ⟨pq, hw''⟩ := hw'
      subst hw''
      clear e0 e1 e2 e3 k1 k2
      replace BT := mB BT pq.h
      replace BW_ := mB BW_ pq.h
      replace SA := mB SA pq.h
      replace SB := mB SB pq.h
      replace HB := mT HB pq.h
      generalize pq.W = u3 at *
      clear pq
      clear SA SB
      have bw__ := BW_.out.f3
      go_wp2
      clear bw__
      have qBT := BT.out.far (p := ⟨(w.heap.size + 1), 2, none⟩) (by first | omega | (simp; done) | (simp; omega)) (.int .i64 ((((t.b.x - t.a.x) * (8 * y + 4 - t.a.y)) - ((8 * x + 4 - t.a.x) * (t.b.y - t.a.y)))))
      have qBW_ : HasBlk (u3.setCell ⟨w.heap.size + 1, 2, none⟩ (.int .i64 ((((t.b.x - t.a.x) * (8 * y + 4 - t.a.y)) - ((8 * x + 4 - t.a.x) * (t.b.y - t.a.y)))))) (w.heap.size + 1) 28 #[.int .i64 ((S5.w t.b t.c x y)), .int .i64 ((S5.w t.c t.a x y)), .int .i64 ((((t.b.x - t.a.x) * (8 * y + 4 - t.a.y)) - ((8 * x + 4 - t.a.x) * (t.b.y - t.a.y))))] := by simpa using BW_.out.set 2 (.int .i64 ((((t.b.x - t.a.x) * (8 * y + 4 - t.a.y)) - ((8 * x + 4 - t.a.x) * (t.b.y - t.a.y)))))
      have qHB := Below.setCell (p := ⟨(w.heap.size + 1), 2, none⟩) HB.out (by show w.heap.size ≤ (w.heap.size + 1); omega) (.int .i64 ((((t.b.x - t.a.x) * (8 * y + 4 - t.a.y)) - ((8 * x + 4 - t.a.x) * (t.b.y - t.a.y)))))
      generalize (u3.setCell ⟨w.heap.size + 1, 2, none⟩ (.int .i64 ((((t.b.x - t.a.x) * (8 * y + 4 - t.a.y)) - ((8 * x + 4 - t.a.x) * (t.b.y - t.a.y)))))) = u4 at *
      go_roundw
      case rel => exact Lib.hid (.inr (.inr (.inr (⟨by go_num, qBT, qBW_, qHB⟩))))
      case measure => simp [intOf]
    · have BT := Lib.hid qBT
      have BW_ := Lib.hid qBW_
      have HB := Lib.hid qHB
      clear qBT qBW_ qHB
      have bw__ := BW_.out.f3
      go_wp2
      refine bodyPost_ret (v := .tuple #[.agg #[.int .i64 ((S5.w t.b t.c x y)), .int .i64 ((S5.w t.c t.a x y)), .int .i64 ((S5.w t.a t.b x y))], .int .i64 0]) (by simp [results, Tryd.results35, go_sem, *]) rfl ⟨rfl, ?_⟩
      repeat (refine Below.setCell ?_ (by first | omega | (simp; done) | (simp; omega)) _)
      exact HB.out

set_option maxRecDepth 100000 in
set_option maxHeartbeats 32000000 in
theorem covers_ok (t : T3) (x y : Int) (ht : t.Ok) (ha : 0 < t.area) (hp : Pix x y) (w : World) : Calls Tryd.prog 34 #[.agg #[.int .i64 t.a.x, .int .i64 t.a.y, .int .i64 t.a.d, .int .i64 t.a.u, .int .i64 t.a.v, .int .i64 t.b.x, .int .i64 t.b.y, .int .i64 t.b.d, .int .i64 t.b.u, .int .i64 t.b.v, .int .i64 t.c.x, .int .i64 t.c.y, .int .i64 t.c.d, .int .i64 t.c.u, .int .i64 t.c.v], .int .i64 x, .int .i64 y] w fun e w' => e = .returned (.tuple #[.bool (t.cov x y), .int .i64 0]) ∧ Below w.heap.size w w' := by
  have HT := Lib.hid ht
  have HA := Lib.hid ha
  have HP := Lib.hid hp
  clear ht ha hp
  obtain ⟨v0, hv0, BT, HB⟩ := lay1 w 87 #[.int .i64 t.a.x, .int .i64 t.a.y, .int .i64 t.a.d, .int .i64 t.a.u, .int .i64 t.a.v, .int .i64 t.b.x, .int .i64 t.b.y, .int .i64 t.b.d, .int .i64 t.b.u, .int .i64 t.b.v, .int .i64 t.c.x, .int .i64 t.c.y, .int .i64 t.c.d, .int .i64 t.c.u, .int .i64 t.c.v]
  go_enter Tryd.func34, Tryd.ntmps34
  go_upto_region 1 with fail
  rw [← hv0.out]
  clear hv0
  have bt_ := BT.out.c15
  have KX := Lib.hid (edges_ok t x y HT.out HA.out HP.out v0)
  go_wp2_with fail
  refine KX.out.mono ?_
  rintro e v1 ⟨rfl, bel⟩
  clear KX
  clear bt_
  replace BT := mB BT bel
  replace HB := mT HB bel
  clear bel
  go_upto_region 2 with fail
  obtain ⟨v2, xw, hz, hx', BW_, bA⟩ := laidB v1 28 #[.int .i64 ((S5.w t.b t.c x y)), .int .i64 ((S5.w t.c t.a x y)), .int .i64 ((S5.w t.a t.b x y))]
  rw [← hz.out, ← hx'.out]
  replace BT := mB BT bA
  replace HB := mT HB bA
  clear hz hx' bA
  have bw__ := BW_.out.c3
  go_wp2
  clear bw__
  clear BW_
  go_loopw [26] (fun s26 wr => RowKit.Hid ((s26 = .int .i64 (0 : Nat) ∧ HasBlk wr w.heap.size 87 #[.int .i64 t.a.x, .int .i64 t.a.y, .int .i64 t.a.d, .int .i64 t.a.u, .int .i64 t.a.v, .int .i64 t.b.x, .int .i64 t.b.y, .int .i64 t.b.d, .int .i64 t.b.u, .int .i64 t.b.v, .int .i64 t.c.x, .int .i64 t.c.y, .int .i64 t.c.d, .int .i64 t.c.u, .int .i64 t.c.v] ∧ Below w.heap.size w wr) ∨ ((s26 = .int .i64 (1 : Nat) ∧ S5.cov t.b t.c x y = true ∧ HasBlk wr w.heap.size 87 #[.int .i64 t.a.x, .int .i64 t.a.y, .int .i64 t.a.d, .int .i64 t.a.u, .int .i64 t.a.v, .int .i64 t.b.x, .int .i64 t.b.y, .int .i64 t.b.d, .int .i64 t.b.u, .int .i64 t.b.v, .int .i64 t.c.x, .int .i64 t.c.y, .int .i64 t.c.d, .int .i64 t.c.u, .int .i64 t.c.v] ∧ Below w.heap.size w wr) ∨ ((s26 = .int .i64 (2 : Nat) ∧ S5.cov t.b t.c x y = true ∧ S5.cov t.c t.a x y = true ∧ HasBlk wr w.heap.size 87 #[.int .i64 t.a.x, .int .i64 t.a.y, .int .i64 t.a.d, .int .i64 t.a.u, .int .i64 t.a.v, .int .i64 t.b.x, .int .i64 t.b.y, .int .i64 t.b.d, .int .i64 t.b.u, .int .i64 t.b.v, .int .i64 t.c.x, .int .i64 t.c.y, .int .i64 t.c.d, .int .i64 t.c.u, .int .i64 t.c.v] ∧ Below w.heap.size w wr) ∨ ((s26 = .int .i64 (3 : Nat) ∧ S5.cov t.b t.c x y = true ∧ S5.cov t.c t.a x y = true ∧ S5.cov t.a t.b x y = true ∧ HasBlk wr w.heap.size 87 #[.int .i64 t.a.x, .int .i64 t.a.y, .int .i64 t.a.d, .int .i64 t.a.u, .int .i64 t.a.v, .int .i64 t.b.x, .int .i64 t.b.y, .int .i64 t.b.d, .int .i64 t.b.u, .int .i64 t.b.v, .int .i64 t.c.x, .int .i64 t.c.y, .int .i64 t.c.d, .int .i64 t.c.u, .int .i64 t.c.v] ∧ Below w.heap.size w wr)))))) (fun s26 wr => 3 - (intOf s26).toNat)
  case atStart => exact Lib.hid (.inl ⟨rfl, BT.out, HB.out⟩)
  case round =>
    clear BT HB
    rcases hrel.out with ⟨rfl, qBT, qHB⟩ | ⟨rfl, f0, qBT, qHB⟩ | ⟨rfl, f0, f1, qBT, qHB⟩ | ⟨rfl, f0, f1, f2, qBT, qHB⟩
    · have BT := Lib.hid qBT
      have HB := Lib.hid qHB
      clear qBT qHB
      have hxi := ix_num0 (S5.w t.b t.c x y) (S5.w t.c t.a x y) (S5.w t.a t.b x y)
      have bt_ := BT.out.c15
      have KX := Lib.hid (side0_any t wr)
      go_wp2_with fail
      refine KX.out.mono ?_
      rintro e u1 ⟨rfl, bel⟩
      clear KX
      clear bt_
      replace BT := mB BT bel
      replace HB := mT HB bel
      clear bel
      clear hxi
      go_upto_region 8 with fail
      obtain ⟨u2, hz, SA, SB, bA⟩ := lay2 u1 86 #[.int .i64 t.b.x, .int .i64 t.b.y, .int .i64 t.b.d, .int .i64 t.b.u, .int .i64 t.b.v] 86 #[.int .i64 t.c.x, .int .i64 t.c.y, .int .i64 t.c.d, .int .i64 t.c.u, .int .i64 t.c.v]
      rw [← hz.out]
      obtain ⟨xa, hxa⟩ : ∃ xa, xa = u1.heap.size := ⟨_, rfl⟩
      rw [← hxa] at SA SB ⊢
      replace BT := mB BT bA.out
      replace HB := mT HB bA.out
      clear bA hz hxa
      have HE := Lib.hid (show S5.cov t.b t.c x y = !(decide ((S5.w t.b t.c x y) < 0) || ((S5.w t.b t.c x y) == 0 && !S5.owns t.b t.c)) from rfl)
      go_cut [14, 26] from 26 to 65 (fun s14 s26 wx => s26 = .int .i64 (0 : Nat) ∧ s14 = .bool (S5.owns t.b t.c) ∧ HasBlk wx w.heap.size 87 #[.int .i64 t.a.x, .int .i64 t.a.y, .int .i64 t.a.d, .int .i64 t.a.u, .int .i64 t.a.v, .int .i64 t.b.x, .int .i64 t.b.y, .int .i64 t.b.d, .int .i64 t.b.u, .int .i64 t.b.v, .int .i64 t.c.x, .int .i64 t.c.y, .int .i64 t.c.d, .int .i64 t.c.u, .int .i64 t.c.v] ∧ HasBlk wx xa 86 #[.int .i64 t.b.x, .int .i64 t.b.y, .int .i64 t.b.d, .int .i64 t.b.u, .int .i64 t.b.v] ∧ HasBlk wx (xa + 1) 86 #[.int .i64 t.c.x, .int .i64 t.c.y, .int .i64 t.c.d, .int .i64 t.c.u, .int .i64 t.c.v] ∧ Below w.heap.size w wx)
      case first =>
        have sa_ := SA.out.c5
        have sb_ := SB.out.c5
        by_cases h1 : t.c.y < t.b.y
        · have g1 : decide (t.c.y < t.b.y) = true := decide_eq_true h1
          have HO := Lib.hid (show S5.owns t.b t.c = true by simp [S5.owns, h1])
          clear h1
          go_wp2_with fail
          go_meet
          exact ⟨rfl, by rw [HO.out], BT.out, SA.out, SB.out, HB.out⟩
        have g1 : decide (t.c.y < t.b.y) = false := decide_eq_false h1
        by_cases h2 : t.c.y = t.b.y
        · have g2 : (t.c.y == t.b.y) = true := by simp [h2]
          by_cases h3 : t.b.x < t.c.x
          · have g3 : decide (t.b.x < t.c.x) = true := by simp [h3]
            have HO := Lib.hid (show S5.owns t.b t.c = true by simp [S5.owns, h2, h3])
            clear h1 h2 h3
            go_wp2_with fail
            go_meet
            exact ⟨rfl, by rw [HO.out], BT.out, SA.out, SB.out, HB.out⟩
          · have g3 : decide (t.b.x < t.c.x) = false := by simp [h3]
            have HO := Lib.hid (show S5.owns t.b t.c = false by simp [S5.owns, h2, h3])
            clear h1 h2 h3
            go_wp2_with fail
            go_meet
            exact ⟨rfl, by rw [HO.out], BT.out, SA.out, SB.out, HB.out⟩
        · have g2 : (t.c.y == t.b.y) = false := by simp [h2]
          have HO := Lib.hid (show S5.owns t.b t.c = false by simp [S5.owns, h1, h2])
          clear h1 h2
          go_wp2_with fail
          go_meet
          exact ⟨rfl, by rw [HO.out], BT.out, SA.out, SB.out, HB.out⟩
      case rest =>
        obtain ⟨rfl, rfl, qBT, qSA, qSB, qHB⟩ := hcut
        have BT := Lib.hid qBT
        have SA := Lib.hid qSA
        have SB := Lib.hid qSB
        have HB := Lib.hid qHB
        clear qBT qSA qSB qHB
        generalize S5.owns t.b t.c = ow at *
        have qBT2 := BT
        clear BT SA SB
        by_cases h1 : (S5.w t.b t.c x y) < 0
        · have g1 : decide ((S5.w t.b t.c x y) < 0) = true := decide_eq_true h1
          have HF := Lib.hid (show t.cov x y = false by unfold T3.cov; rw [HE.out]; simp [h1])
          clear h1 HE
          go_wp2
          go_ret2
          exact ⟨by rw [HF.out]; rfl, HB.out⟩
        have g1 : decide ((S5.w t.b t.c x y) < 0) = false := decide_eq_false h1
        by_cases h2 : (S5.w t.b t.c x y) = 0
        · have g2 : ((S5.w t.b t.c x y) == 0) = true := by simp [h2]
          cases ow
          · have HF := Lib.hid (show t.cov x y = false by unfold T3.cov; rw [HE.out]; simp [h2])
            clear h1 h2 HE
            go_wp2
            go_ret2
            exact ⟨by rw [HF.out]; rfl, HB.out⟩
          · have hv : S5.cov t.b t.c x y = true := by rw [HE.out]; simp [h2]
            clear h1 h2 HE
            go_wp2
            go_roundw
            case rel => exact Lib.hid (.inr ((.inl ⟨by go_num, hv, qBT2.out, HB.out⟩)))
            case measure => simp [intOf]
        · have g2 : ((S5.w t.b t.c x y) == 0) = false := by simp [h2]
          have hv : S5.cov t.b t.c x y = true := by rw [HE.out]; simp [h1, h2]
          clear h1 h2 HE
          go_wp2
          go_roundw
          case rel => exact Lib.hid (.inr ((.inl ⟨by go_num, hv, qBT2.out, HB.out⟩)))
          case measure => simp [intOf]
    · have BT := Lib.hid qBT
      have HB := Lib.hid qHB
      clear qBT qHB
      have F0 := Lib.hid f0
      clear f0
      have hxi := ix_num1 (S5.w t.b t.c x y) (S5.w t.c t.a x y) (S5.w t.a t.b x y)
      have bt_ := BT.out.c15
      have KX := Lib.hid (side1_any t wr)
      go_wp2_with fail
      refine KX.out.mono ?_
      rintro e u1 ⟨rfl, bel⟩
      clear KX
      clear bt_
      replace BT := mB BT bel
      replace HB := mT HB bel
      clear bel
      clear hxi
      go_upto_region 8 with fail
      obtain ⟨u2, hz, SA, SB, bA⟩ := lay2 u1 86 #[.int .i64 t.c.x, .int .i64 t.c.y, .int .i64 t.c.d, .int .i64 t.c.u, .int .i64 t.c.v] 86 #[.int .i64 t.a.x, .int .i64 t.a.y, .int .i64 t.a.d, .int .i64 t.a.u, .int .i64 t.a.v]
      rw [← hz.out]
      obtain ⟨xa, hxa⟩ : ∃ xa, xa = u1.heap.size := ⟨_, rfl⟩
      rw [← hxa] at SA SB ⊢
      replace BT := mB BT bA.out
      replace HB := mT HB bA.out
      clear bA hz hxa
      have HE := Lib.hid (show S5.cov t.c t.a x y = !(decide ((S5.w t.c t.a x y) < 0) || ((S5.w t.c t.a x y) == 0 && !S5.owns t.c t.a)) from rfl)
      go_cut [14, 26] from 26 to 65 (fun s14 s26 wx => s26 = .int .i64 (1 : Nat) ∧ s14 = .bool (S5.owns t.c t.a) ∧ HasBlk wx w.heap.size 87 #[.int .i64 t.a.x, .int .i64 t.a.y, .int .i64 t.a.d, .int .i64 t.a.u, .int .i64 t.a.v, .int .i64 t.b.x, .int .i64 t.b.y, .int .i64 t.b.d, .int .i64 t.b.u, .int .i64 t.b.v, .int .i64 t.c.x, .int .i64 t.c.y, .int .i64 t.c.d, .int .i64 t.c.u, .int .i64 t.c.v] ∧ HasBlk wx xa 86 #[.int .i64 t.c.x, .int .i64 t.c.y, .int .i64 t.c.d, .int .i64 t.c.u, .int .i64 t.c.v] ∧ HasBlk wx (xa + 1) 86 #[.int .i64 t.a.x, .int .i64 t.a.y, .int .i64 t.a.d, .int .i64 t.a.u, .int .i64 t.a.v] ∧ Below w.heap.size w wx)
      case first =>
        have sa_ := SA.out.c5
        have sb_ := SB.out.c5
        by_cases h1 : t.a.y < t.c.y
        · have g1 : decide (t.a.y < t.c.y) = true := decide_eq_true h1
          have HO := Lib.hid (show S5.owns t.c t.a = true by simp [S5.owns, h1])
          clear h1
          go_wp2_with fail
          go_meet
          exact ⟨rfl, by rw [HO.out], BT.out, SA.out, SB.out, HB.out⟩
        have g1 : decide (t.a.y < t.c.y) = false := decide_eq_false h1
        by_cases h2 : t.a.y = t.c.y
        · have g2 : (t.a.y == t.c.y) = true := by simp [h2]
          by_cases h3 : t.c.x < t.a.x
          · have g3 : decide (t.c.x < t.a.x) = true := by simp [h3]
            have HO := Lib.hid (show S5.owns t.c t.a = true by simp [S5.owns, h2, h3])
            clear h1 h2 h3
            go_wp2_with fail
            go_meet
            exact ⟨rfl, by rw [HO.out], BT.out, SA.out, SB.out, HB.out⟩
          · have g3 : decide (t.c.x < t.a.x) = false := by simp [h3]
            have HO := Lib.hid (show S5.owns t.c t.a = false by simp [S5.owns, h2, h3])
            clear h1 h2 h3
            go_wp2_with fail
            go_meet
            exact ⟨rfl, by rw [HO.out], BT.out, SA.out, SB.out, HB.out⟩
        · have g2 : (t.a.y == t.c.y) = false := by simp [h2]
          have HO := Lib.hid (show S5.owns t.c t.a = false by simp [S5.owns, h1, h2])
          clear h1 h2
          go_wp2_with fail
          go_meet
          exact ⟨rfl, by rw [HO.out], BT.out, SA.out, SB.out, HB.out⟩
      case rest =>
        obtain ⟨rfl, rfl, qBT, qSA, qSB, qHB⟩ := hcut
        have BT := Lib.hid qBT
        have SA := Lib.hid qSA
        have SB := Lib.hid qSB
        have HB := Lib.hid qHB
        clear qBT qSA qSB qHB
        generalize S5.owns t.c t.a = ow at *
        have qBT2 := BT
        clear BT SA SB
        by_cases h1 : (S5.w t.c t.a x y) < 0
        · have g1 : decide ((S5.w t.c t.a x y) < 0) = true := decide_eq_true h1
          have HF := Lib.hid (show t.cov x y = false by unfold T3.cov; rw [HE.out]; simp [h1])
          clear h1 HE
          go_wp2
          go_ret2
          exact ⟨by rw [HF.out]; rfl, HB.out⟩
        have g1 : decide ((S5.w t.c t.a x y) < 0) = false := decide_eq_false h1
        by_cases h2 : (S5.w t.c t.a x y) = 0
        · have g2 : ((S5.w t.c t.a x y) == 0) = true := by simp [h2]
          cases ow
          · have HF := Lib.hid (show t.cov x y = false by unfold T3.cov; rw [HE.out]; simp [h2])
            clear h1 h2 HE
            go_wp2
            go_ret2
            exact ⟨by rw [HF.out]; rfl, HB.out⟩
          · have hv : S5.cov t.c t.a x y = true := by rw [HE.out]; simp [h2]
            clear h1 h2 HE
            go_wp2
            go_roundw
            case rel => exact Lib.hid (.inr (.inr ((.inl ⟨by go_num, F0.out, hv, qBT2.out, HB.out⟩))))
            case measure => simp [intOf]
        · have g2 : ((S5.w t.c t.a x y) == 0) = false := by simp [h2]
          have hv : S5.cov t.c t.a x y = true := by rw [HE.out]; simp [h1, h2]
          clear h1 h2 HE
          go_wp2
          go_roundw
          case rel => exact Lib.hid (.inr (.inr ((.inl ⟨by go_num, F0.out, hv, qBT2.out, HB.out⟩))))
          case measure => simp [intOf]
    · have BT := Lib.hid qBT
      have HB := Lib.hid qHB
      clear qBT qHB
      have F0 := Lib.hid f0
      clear f0
      have F1 := Lib.hid f1
      clear f1
      have hxi := ix_num2 (S5.w t.b t.c x y) (S5.w t.c t.a x y) (S5.w t.a t.b x y)
      have bt_ := BT.out.c15
      have KX := Lib.hid (side2_any t wr)
      go_wp2_with fail
      refine KX.out.mono ?_
      rintro e u1 ⟨rfl, bel⟩
      clear KX
      clear bt_
      replace BT := mB BT bel
      replace HB := mT HB bel
      clear bel
      clear hxi
      go_upto_region 8 with fail
      obtain ⟨u2, hz, SA, SB, bA⟩ := lay2 u1 86 #[.int .i64 t.a.x, .int .i64 t.a.y, .int .i64 t.a.d, .int .i64 t.a.u, .int .i64 t.a.v] 86 #[.int .i64 t.b.x, .int .i64 t.b.y, .int .i64 t.b.d, .int .i64 t.b.u, .int .i64 t.b.v]
      rw [← hz.out]
      obtain ⟨xa, hxa⟩ : ∃ xa, xa = u1.heap.size := ⟨_, rfl⟩
      rw [← hxa] at SA SB ⊢
      replace BT := mB BT bA.out
      replace HB := mT HB bA.out
      clear bA hz hxa
      have HE := Lib.hid (show S5.cov t.a t.b x y = !(decide ((S5.w t.a t.b x y) < 0) || ((S5.w t.a t.b x y) == 0 && !S5.owns t.a t.b)) from rfl)
      go_cut [14, 26] from 26 to 65 (fun s14 s26 wx => s26 = .int .i64 (2 : Nat) ∧ s14 = .bool (S5.owns t.a t.b) ∧ HasBlk wx w.heap.size 87 #[.int .i64 t.a.x, .int .i64 t.a.y, .int .i64 t.a.d, .int .i64 t.a.u, .int .i64 t.a.v, .int .i64 t.b.x, .int .i64 t.b.y, .int .i64 t.b.d, .int .i64 t.b.u, .int .i64 t.b.v, .int .i64 t.c.x, .int .i64 t.c.y, .int .i64 t.c.d, .int .i64 t.c.u, .int .i64 t.c.v] ∧ HasBlk wx xa 86 #[.int .i64 t.a.x, .int .i64 t.a.y, .int .i64 t.a.d, .int .i64 t.a.u, .int .i64 t.a.v] ∧ HasBlk wx (xa + 1) 86 #[.int .i64 t.b.x, .int .i64 t.b.y, .int .i64 t.b.d, .int .i64 t.b.u, .int .i64 t.b.v] ∧ Below w.heap.size w wx)
      case first =>
        have sa_ := SA.out.c5
        have sb_ := SB.out.c5
        by_cases h1 : t.b.y < t.a.y
        · have g1 : decide (t.b.y < t.a.y) = true := decide_eq_true h1
          have HO := Lib.hid (show S5.owns t.a t.b = true by simp [S5.owns, h1])
          clear h1
          go_wp2_with fail
          go_meet
          exact ⟨rfl, by rw [HO.out], BT.out, SA.out, SB.out, HB.out⟩
        have g1 : decide (t.b.y < t.a.y) = false := decide_eq_false h1
        by_cases h2 : t.b.y = t.a.y
        · have g2 : (t.b.y == t.a.y) = true := by simp [h2]
          by_cases h3 : t.a.x < t.b.x
          · have g3 : decide (t.a.x < t.b.x) = true := by simp [h3]
            have HO := Lib.hid (show S5.owns t.a t.b = true by simp [S5.owns, h2, h3])
            clear h1 h2 h3
            go_wp2_with fail
            go_meet
            exact ⟨rfl, by rw [HO.out], BT.out, SA.out, SB.out, HB.out⟩
          · have g3 : decide (t.a.x < t.b.x) = false := by simp [h3]
            have HO := Lib.hid (show S5.owns t.a t.b = false by simp [S5.owns, h2, h3])
            clear h1 h2 h3
            go_wp2_with fail
            go_meet
            exact ⟨rfl, by rw [HO.out], BT.out, SA.out, SB.out, HB.out⟩
        · have g2 : (t.b.y == t.a.y) = false := by simp [h2]
          have HO := Lib.hid (show S5.owns t.a t.b = false by simp [S5.owns, h1, h2])
          clear h1 h2
          go_wp2_with fail
          go_meet
          exact ⟨rfl, by rw [HO.out], BT.out, SA.out, SB.out, HB.out⟩
      case rest =>
        obtain ⟨rfl, rfl, qBT, qSA, qSB, qHB⟩ := hcut
        have BT := Lib.hid qBT
        have SA := Lib.hid qSA
        have SB := Lib.hid qSB
        have HB := Lib.hid qHB
        clear qBT qSA qSB qHB
        generalize S5.owns t.a t.b = ow at *
        have qBT2 := BT
        clear BT SA SB
        by_cases h1 : (S5.w t.a t.b x y) < 0
        · have g1 : decide ((S5.w t.a t.b x y) < 0) = true := decide_eq_true h1
          have HF := Lib.hid (show t.cov x y = false by unfold T3.cov; rw [HE.out]; simp [h1])
          clear h1 HE
          go_wp2
          go_ret2
          exact ⟨by rw [HF.out]; rfl, HB.out⟩
        have g1 : decide ((S5.w t.a t.b x y) < 0) = false := decide_eq_false h1
        by_cases h2 : (S5.w t.a t.b x y) = 0
        · have g2 : ((S5.w t.a t.b x y) == 0) = true := by simp [h2]
          cases ow
          · have HF := Lib.hid (show t.cov x y = false by unfold T3.cov; rw [HE.out]; simp [h2])
            clear h1 h2 HE
            go_wp2
            go_ret2
            exact ⟨by rw [HF.out]; rfl, HB.out⟩
          · have hv : S5.cov t.a t.b x y = true := by rw [HE.out]; simp [h2]
            clear h1 h2 HE
            go_wp2
            go_roundw
            case rel => exact Lib.hid (.inr (.inr (.inr (⟨by go_num, F0.out, F1.out, hv, qBT2.out, HB.out⟩))))
            case measure => simp [intOf]
        · have g2 : ((S5.w t.a t.b x y) == 0) = false := by simp [h2]
          have hv : S5.cov t.a t.b x y = true := by rw [HE.out]; simp [h1, h2]
          clear h1 h2 HE
          go_wp2
          go_roundw
          case rel => exact Lib.hid (.inr (.inr (.inr (⟨by go_num, F0.out, F1.out, hv, qBT2.out, HB.out⟩))))
          case measure => simp [intOf]
    · have BT := Lib.hid qBT
      have HB := Lib.hid qHB
      clear qBT qHB
      have HF := Lib.hid (show t.cov x y = true by unfold T3.cov; rw [f0, f1, f2]; rfl)
      clear f0 f1 f2
      go_wp2
      go_ret2
      exact ⟨by rw [HF.out]; rfl, HB.out⟩
end Go.Proofs.YtemopgpcpjnmkaaDoor
