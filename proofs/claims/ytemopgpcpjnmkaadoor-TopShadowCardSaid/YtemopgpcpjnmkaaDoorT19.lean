/- top: the least box of points. -/
import Derived.Test.YtemopgpcpjnmkaaDoorT18
import Derived.Test.YtemopgpcpjnmkaaDoorLoad
namespace Go.Proofs.YtemopgpcpjnmkaaDoor
open Go.RowKit
set_option linter.unusedVariables false
/-- The least box of both. -/
def B3.join (a b : B3) : B3 := ⟨⟨min a.lo.x b.lo.x, min a.lo.y b.lo.y, min a.lo.z b.lo.z⟩, ⟨max a.hi.x b.hi.x, max a.hi.y b.hi.y, max a.hi.z b.hi.z⟩⟩
def B3.zero : B3 := ⟨⟨0, 0, 0⟩, ⟨0, 0, 0⟩⟩
/-- The least box of some points. -/
def boxOf : List V3 → B3
  | [] => B3.zero
  | v :: l => l.foldl (fun b u => b.join ⟨u, u⟩) ⟨v, v⟩
theorem join_has1 {a b : B3} {v : V3} (h : a.has v) : (a.join b).has v := by
  unfold B3.has at *
  unfold B3.join
  dsimp only
  omega
theorem join_has2 {a b : B3} {v : V3} (h : b.has v) : (a.join b).has v := by
  unfold B3.has at *
  unfold B3.join
  dsimp only
  omega
theorem fold_has {v : V3} : ∀ (l : List V3) (b : B3), b.has v → (l.foldl (fun b u => b.join ⟨u, u⟩) b).has v
  | [], b, h => h
  | u :: l, b, h => fold_has l _ (join_has1 h)
theorem point_has (v : V3) : (⟨v, v⟩ : B3).has v := ⟨⟨Int.le_refl _, Int.le_refl _⟩, ⟨Int.le_refl _, Int.le_refl _⟩, ⟨Int.le_refl _, Int.le_refl _⟩⟩
theorem fold_mem {v : V3} : ∀ (l : List V3) (b : B3), v ∈ l → (l.foldl (fun b u => b.join ⟨u, u⟩) b).has v
  | [], b, h => by cases h
  | u :: l, b, h => by
    rcases List.mem_cons.1 h with h | h
    · subst h; exact fold_has l _ (join_has2 (point_has _))
    · exact fold_mem l _ h
/-- The least box holds each point. -/
theorem boxOf_has {v : V3} {l : List V3} (h : v ∈ l) : (boxOf l).has v := by
  cases l with
  | nil => cases h
  | cons u l =>
    rcases List.mem_cons.1 h with h | h
    · subst h; exact fold_has l _ (point_has _)
    · exact fold_mem l _ h
/-- A box of the world's: its corners lie there, in order. -/
def B3.Wd (b : B3) : Prop := (b.lo.Ok ∧ b.hi.Ok) ∧ (b.lo.x ≤ b.hi.x ∧ b.lo.y ≤ b.hi.y ∧ b.lo.z ≤ b.hi.z)
theorem point_wd {v : V3} (h : v.Ok) : (⟨v, v⟩ : B3).Wd := ⟨⟨h, h⟩, Int.le_refl _, Int.le_refl _, Int.le_refl _⟩
theorem join_wd {a b : B3} (ha : a.Wd) (hb : b.Wd) : (a.join b).Wd := by
  unfold B3.Wd V3.Ok Wi at *
  unfold B3.join
  dsimp only
  omega
theorem fold_wd : ∀ (l : List V3) (b : B3), b.Wd → (∀ v ∈ l, v.Ok) → (l.foldl (fun b u => b.join ⟨u, u⟩) b).Wd
  | [], b, h, _ => h
  | u :: l, b, h, k => fold_wd l _ (join_wd h (point_wd (k u (List.mem_cons_self ..)))) fun v hv => k v (List.mem_cons_of_mem _ hv)
theorem boxOf_wd {l : List V3} (hl : l ≠ []) (h : ∀ v ∈ l, v.Ok) : (boxOf l).Wd := by
  cases l with
  | nil => exact absurd rfl hl
  | cons u l => exact fold_wd l _ (point_wd (h u (List.mem_cons_self ..))) fun v hv => h v (List.mem_cons_of_mem _ hv)
theorem bld_109 (x y : Int) (w : World) : (Instr.build 109 #[(0, .int .i64 x), (1, .int .i64 y)]).run Tryd.prog w = .ok (.agg #[.int .i64 x, .int .i64 y]) w := by kernel_rfl
theorem bld_50 (x y z x' y' z' : Int) (w : World) : (Instr.build 50 #[(0, .agg #[.int .i64 x, .int .i64 y, .int .i64 z]), (1, .agg #[.int .i64 x', .int .i64 y', .int .i64 z'])]).run Tryd.prog w = .ok (.agg #[.int .i64 x, .int .i64 y, .int .i64 z, .int .i64 x', .int .i64 y', .int .i64 z']) w := by kernel_rfl

set_option maxRecDepth 100000 in
set_option maxHeartbeats 32000000 in
theorem join_any (a b : B3) (w : World) : Calls Tryd.prog 75 #[.agg #[.int .i64 a.lo.x, .int .i64 a.lo.y, .int .i64 a.lo.z, .int .i64 a.hi.x, .int .i64 a.hi.y, .int .i64 a.hi.z], .agg #[.int .i64 b.lo.x, .int .i64 b.lo.y, .int .i64 b.lo.z, .int .i64 b.hi.x, .int .i64 b.hi.y, .int .i64 b.hi.z]] w fun e w' => e = .returned (.agg #[.int .i64 ((a.join b).lo.x), .int .i64 ((a.join b).lo.y), .int .i64 ((a.join b).lo.z), .int .i64 ((a.join b).hi.x), .int .i64 ((a.join b).hi.y), .int .i64 ((a.join b).hi.z)]) ∧ Below w.heap.size w w' := by
  obtain ⟨v0, hv0, BA, BB, BR, HB⟩ := lay3 w 50 #[.int .i64 a.lo.x, .int .i64 a.lo.y, .int .i64 a.lo.z, .int .i64 a.hi.x, .int .i64 a.hi.y, .int .i64 a.hi.z] 50 #[.int .i64 b.lo.x, .int .i64 b.lo.y, .int .i64 b.lo.z, .int .i64 b.hi.x, .int .i64 b.hi.y, .int .i64 b.hi.z] 50 #[.int .i64 0, .int .i64 0, .int .i64 0, .int .i64 0, .int .i64 0, .int .i64 0]
  go_enter Tryd.func75, Tryd.ntmps75
  go_upto_region 1 with fail
  rw [← hv0.out]
  clear hv0
  go_cut [5, 6] (fun s5 s6 wx => ∃ x y, s5 = .pointer (some ⟨x, 0, none⟩) ∧ s6 = .pointer (some ⟨y, 0, none⟩) ∧ (HasBlk wx x 110 #[.int .i64 a.lo.x, .int .i64 a.hi.x, .int .i64 a.lo.y, .int .i64 a.hi.y, .int .i64 a.lo.z, .int .i64 a.hi.z] ∧ HasBlk wx y 110 #[.int .i64 b.lo.x, .int .i64 b.hi.x, .int .i64 b.lo.y, .int .i64 b.hi.y, .int .i64 b.lo.z, .int .i64 b.hi.z] ∧ x ≠ y ∧ w.heap.size + 2 < x ∧ w.heap.size + 2 < y) ∧ HasBlk wx w.heap.size 50 #[.int .i64 a.lo.x, .int .i64 a.lo.y, .int .i64 a.lo.z, .int .i64 a.hi.x, .int .i64 a.hi.y, .int .i64 a.hi.z] ∧ HasBlk wx (w.heap.size + 1) 50 #[.int .i64 b.lo.x, .int .i64 b.lo.y, .int .i64 b.lo.z, .int .i64 b.hi.x, .int .i64 b.hi.y, .int .i64 b.hi.z] ∧ HasBlk wx (w.heap.size + 1 + 1) 50 #[.int .i64 0, .int .i64 0, .int .i64 0, .int .i64 0, .int .i64 0, .int .i64 0] ∧ Below w.heap.size w wx)
  case first =>
    obtain ⟨z0, hz, bd⟩ := dr0 v0
    replace BA := mB BA bd
    replace BB := mB BB bd
    replace BR := mB BR bd
    replace HB := mT HB bd
    have HS := Lib.hid (Below.refl z0.heap.size z0)
    refine wp_region_E (Below z0.heap.size z0) 99 (by kernel_rfl) ?_
    rw [← hz.out]
    clear hz bd
    refine wpAnyE_takeA (i := 0) (v := .agg #[.int .i64 a.lo.x, .int .i64 a.lo.y, .int .i64 a.lo.z, .int .i64 a.hi.x, .int .i64 a.hi.y, .int .i64 a.hi.z]) rfl (by kernel_rfl) (fun _ _ _ h => h) (.inl ⟨by first | kernel_rfl | rfl, fun W hW => ?_⟩) HS.out ?_
    · have qBA := (BA.out.below hW).c6
      go_simp
    simp only [Act.put, List.setIfInBounds_toArray]
    refine wpAnyE_takeA (i := 2) (v := .agg #[.int .i64 b.lo.x, .int .i64 b.lo.y, .int .i64 b.lo.z, .int .i64 b.hi.x, .int .i64 b.hi.y, .int .i64 b.hi.z]) rfl (by kernel_rfl) (fun _ _ _ h => h) (.inl ⟨by first | kernel_rfl | rfl, fun W hW => ?_⟩) HS.out ?_
    · have qBB := (BB.out.below hW).c6
      go_simp
    simp only [Act.put]
    apply wpAnyE_via2 (fun x y z => Hid (Below z0.heap.size z0 z) ∧ Hid (HasBlk z x 110 #[.int .i64 0, .int .i64 0, .int .i64 0, .int .i64 0, .int .i64 0, .int .i64 0]) ∧ Hid (HasBlk z y 110 #[.int .i64 0, .int .i64 0, .int .i64 0, .int .i64 0, .int .i64 0, .int .i64 0]) ∧ Hid (z0.heap.size ≤ x) ∧ Hid (z0.heap.size ≤ y) ∧ Hid (x ≠ y)) 2 #[true, true, true, true, true, true, false, false]
    · intro via
      refine wpAnyE_three (i := 1) (j := 4) (k := 5) rfl rfl rfl (by kernel_rfl) (fun KQ HK => ?_) (fun KQ HK => ?_) (fun KQ HK => ?_)
      · have KX := Lib.hid (spans_any a.lo.x a.lo.y a.lo.z a.hi.x a.hi.y a.hi.z z0)
        go_wp2_with fail
        refine KX.out.mono ?_
        rintro e z1 ⟨rfl, bel⟩
        replace HS := mT HS bel
        clear KX bel
        go_wp2
        refine HK _ _ (fun _ => HS.out) ?_
        clear HK
        refine wpAnyE_three (i := 3) (j := 4) (k := 5) rfl rfl rfl (by kernel_rfl) (fun KQ HK => ?_) (fun KQ HK => ?_) (fun KQ HK => ?_)
        · have KX := Lib.hid (spans_any b.lo.x b.lo.y b.lo.z b.hi.x b.hi.y b.hi.z z1)
          go_wp2_with fail
          refine KX.out.mono ?_
          rintro e z2 ⟨rfl, bel⟩
          replace HS := mT HS bel
          clear KX bel
          go_wp2
          refine HK _ _ (fun _ => HS.out) ?_
          clear HK
          refine wpAnyE_two (i := 4) (j := 5) rfl rfl (by kernel_rfl) (fun KQ HK => ?_) (fun KQ HK => ?_)
          · go_wp2
            obtain ⟨z3, x, hz, hx', X, bel, LX, hN⟩ := allocB HS 110 #[.int .i64 0, .int .i64 0, .int .i64 0, .int .i64 0, .int .i64 0, .int .i64 0]
            clear hN
            rw [← hz.out, ← hx'.out]
            replace HS := mT HS bel
            refine HK _ _ (fun _ => HS.out) ?_
            clear HK hz hx' bel
            refine wpAnyE_step (i := 5) rfl (by kernel_rfl) (fun KQ HK => ?_)
            go_wp2
            obtain ⟨z4, y, hz, hx', Y, bel, LY, hN⟩ := allocB HS 110 #[.int .i64 0, .int .i64 0, .int .i64 0, .int .i64 0, .int .i64 0, .int .i64 0]
            have NYX := hN X
            clear hN
            rw [← hz.out, ← hx'.out]
            replace X := mB X bel
            replace HS := mT HS bel
            refine HK _ _ (fun _ => HS.out) ?_
            clear HK hz hx' bel
            exact wpAnyE_at (by kernel_rfl) (by kernel_rfl) (by rfl) (via x y z4 ⟨HS, X, Y, LX, LY, Lib.hid (Nat.ne_of_lt NYX.out)⟩)
          · go_wp2
            obtain ⟨z3, y, hz, hx', Y, bel, LY, hN⟩ := allocB HS 110 #[.int .i64 0, .int .i64 0, .int .i64 0, .int .i64 0, .int .i64 0, .int .i64 0]
            clear hN
            rw [← hz.out, ← hx'.out]
            replace HS := mT HS bel
            refine HK _ _ (fun _ => HS.out) ?_
            clear HK hz hx' bel
            refine wpAnyE_step (i := 4) rfl (by kernel_rfl) (fun KQ HK => ?_)
            go_wp2
            obtain ⟨z4, x, hz, hx', X, bel, LX, hN⟩ := allocB HS 110 #[.int .i64 0, .int .i64 0, .int .i64 0, .int .i64 0, .int .i64 0, .int .i64 0]
            have NXY := hN Y
            clear hN
            rw [← hz.out, ← hx'.out]
            replace Y := mB Y bel
            replace HS := mT HS bel
            refine HK _ _ (fun _ => HS.out) ?_
            clear HK hz hx' bel
            exact wpAnyE_at (by kernel_rfl) (by kernel_rfl) (by rfl) (via x y z4 ⟨HS, X, Y, LX, LY, Lib.hid (Nat.ne_of_gt NXY.out)⟩)
        · go_wp2
          obtain ⟨z2, x, hz, hx', X, bel, LX, hN⟩ := allocB HS 110 #[.int .i64 0, .int .i64 0, .int .i64 0, .int .i64 0, .int .i64 0, .int .i64 0]
          clear hN
          rw [← hz.out, ← hx'.out]
          replace HS := mT HS bel
          refine HK _ _ (fun _ => HS.out) ?_
          clear HK hz hx' bel
          refine wpAnyE_two (i := 3) (j := 5) rfl rfl (by kernel_rfl) (fun KQ HK => ?_) (fun KQ HK => ?_)
          · have KX := Lib.hid (spans_any b.lo.x b.lo.y b.lo.z b.hi.x b.hi.y b.hi.z z2)
            go_wp2_with fail
            refine KX.out.mono ?_
            rintro e z3 ⟨rfl, bel⟩
            replace X := mB X bel
            replace HS := mT HS bel
            clear KX bel
            go_wp2
            refine HK _ _ (fun _ => HS.out) ?_
            clear HK
            refine wpAnyE_step (i := 5) rfl (by kernel_rfl) (fun KQ HK => ?_)
            go_wp2
            obtain ⟨z4, y, hz, hx', Y, bel, LY, hN⟩ := allocB HS 110 #[.int .i64 0, .int .i64 0, .int .i64 0, .int .i64 0, .int .i64 0, .int .i64 0]
            have NYX := hN X
            clear hN
            rw [← hz.out, ← hx'.out]
            replace X := mB X bel
            replace HS := mT HS bel
            refine HK _ _ (fun _ => HS.out) ?_
            clear HK hz hx' bel
            exact wpAnyE_at (by kernel_rfl) (by kernel_rfl) (by rfl) (via x y z4 ⟨HS, X, Y, LX, LY, Lib.hid (Nat.ne_of_lt NYX.out)⟩)
          · go_wp2
            obtain ⟨z3, y, hz, hx', Y, bel, LY, hN⟩ := allocB HS 110 #[.int .i64 0, .int .i64 0, .int .i64 0, .int .i64 0, .int .i64 0, .int .i64 0]
            have NYX := hN X
            clear hN
            rw [← hz.out, ← hx'.out]
            replace X := mB X bel
            replace HS := mT HS bel
            refine HK _ _ (fun _ => HS.out) ?_
            clear HK hz hx' bel
            refine wpAnyE_step (i := 3) rfl (by kernel_rfl) (fun KQ HK => ?_)
            have KX := Lib.hid (spans_any b.lo.x b.lo.y b.lo.z b.hi.x b.hi.y b.hi.z z3)
            go_wp2_with fail
            refine KX.out.mono ?_
            rintro e z4 ⟨rfl, bel⟩
            replace X := mB X bel
            replace Y := mB Y bel
            replace HS := mT HS bel
            clear KX bel
            go_wp2
            refine HK _ _ (fun _ => HS.out) ?_
            clear HK
            exact wpAnyE_at (by kernel_rfl) (by kernel_rfl) (by rfl) (via x y z4 ⟨HS, X, Y, LX, LY, Lib.hid (Nat.ne_of_lt NYX.out)⟩)
        · go_wp2
          obtain ⟨z2, y, hz, hx', Y, bel, LY, hN⟩ := allocB HS 110 #[.int .i64 0, .int .i64 0, .int .i64 0, .int .i64 0, .int .i64 0, .int .i64 0]
          clear hN
          rw [← hz.out, ← hx'.out]
          replace HS := mT HS bel
          refine HK _ _ (fun _ => HS.out) ?_
          clear HK hz hx' bel
          refine wpAnyE_two (i := 3) (j := 4) rfl rfl (by kernel_rfl) (fun KQ HK => ?_) (fun KQ HK => ?_)
          · have KX := Lib.hid (spans_any b.lo.x b.lo.y b.lo.z b.hi.x b.hi.y b.hi.z z2)
            go_wp2_with fail
            refine KX.out.mono ?_
            rintro e z3 ⟨rfl, bel⟩
            replace Y := mB Y bel
            replace HS := mT HS bel
            clear KX bel
            go_wp2
            refine HK _ _ (fun _ => HS.out) ?_
            clear HK
            refine wpAnyE_step (i := 4) rfl (by kernel_rfl) (fun KQ HK => ?_)
            go_wp2
            obtain ⟨z4, x, hz, hx', X, bel, LX, hN⟩ := allocB HS 110 #[.int .i64 0, .int .i64 0, .int .i64 0, .int .i64 0, .int .i64 0, .int .i64 0]
            have NXY := hN Y
            clear hN
            rw [← hz.out, ← hx'.out]
            replace Y := mB Y bel
            replace HS := mT HS bel
            refine HK _ _ (fun _ => HS.out) ?_
            clear HK hz hx' bel
            exact wpAnyE_at (by kernel_rfl) (by kernel_rfl) (by rfl) (via x y z4 ⟨HS, X, Y, LX, LY, Lib.hid (Nat.ne_of_gt NXY.out)⟩)
          · go_wp2
            obtain ⟨z3, x, hz, hx', X, bel, LX, hN⟩ := allocB HS 110 #[.int .i64 0, .int .i64 0, .int .i64 0, .int .i64 0, .int .i64 0, .int .i64 0]
            have NXY := hN Y
            clear hN
            rw [← hz.out, ← hx'.out]
            replace Y := mB Y bel
            replace HS := mT HS bel
            refine HK _ _ (fun _ => HS.out) ?_
            clear HK hz hx' bel
            refine wpAnyE_step (i := 3) rfl (by kernel_rfl) (fun KQ HK => ?_)
            have KX := Lib.hid (spans_any b.lo.x b.lo.y b.lo.z b.hi.x b.hi.y b.hi.z z3)
            go_wp2_with fail
            refine KX.out.mono ?_
            rintro e z4 ⟨rfl, bel⟩
            replace Y := mB Y bel
            replace X := mB X bel
            replace HS := mT HS bel
            clear KX bel
            go_wp2
            refine HK _ _ (fun _ => HS.out) ?_
            clear HK
            exact wpAnyE_at (by kernel_rfl) (by kernel_rfl) (by rfl) (via x y z4 ⟨HS, X, Y, LX, LY, Lib.hid (Nat.ne_of_gt NXY.out)⟩)
      · go_wp2
        obtain ⟨z1, x, hz, hx', X, bel, LX, hN⟩ := allocB HS 110 #[.int .i64 0, .int .i64 0, .int .i64 0, .int .i64 0, .int .i64 0, .int .i64 0]
        clear hN
        rw [← hz.out, ← hx'.out]
        replace HS := mT HS bel
        refine HK _ _ (fun _ => HS.out) ?_
        clear HK hz hx' bel
        refine wpAnyE_two (i := 1) (j := 5) rfl rfl (by kernel_rfl) (fun KQ HK => ?_) (fun KQ HK => ?_)
        · have KX := Lib.hid (spans_any a.lo.x a.lo.y a.lo.z a.hi.x a.hi.y a.hi.z z1)
          go_wp2_with fail
          refine KX.out.mono ?_
          rintro e z2 ⟨rfl, bel⟩
          replace X := mB X bel
          replace HS := mT HS bel
          clear KX bel
          go_wp2
          refine HK _ _ (fun _ => HS.out) ?_
          clear HK
          refine wpAnyE_two (i := 3) (j := 5) rfl rfl (by kernel_rfl) (fun KQ HK => ?_) (fun KQ HK => ?_)
          · have KX := Lib.hid (spans_any b.lo.x b.lo.y b.lo.z b.hi.x b.hi.y b.hi.z z2)
            go_wp2_with fail
            refine KX.out.mono ?_
            rintro e z3 ⟨rfl, bel⟩
            replace X := mB X bel
            replace HS := mT HS bel
            clear KX bel
            go_wp2
            refine HK _ _ (fun _ => HS.out) ?_
            clear HK
            refine wpAnyE_step (i := 5) rfl (by kernel_rfl) (fun KQ HK => ?_)
            go_wp2
            obtain ⟨z4, y, hz, hx', Y, bel, LY, hN⟩ := allocB HS 110 #[.int .i64 0, .int .i64 0, .int .i64 0, .int .i64 0, .int .i64 0, .int .i64 0]
            have NYX := hN X
            clear hN
            rw [← hz.out, ← hx'.out]
            replace X := mB X bel
            replace HS := mT HS bel
            refine HK _ _ (fun _ => HS.out) ?_
            clear HK hz hx' bel
            exact wpAnyE_at (by kernel_rfl) (by kernel_rfl) (by rfl) (via x y z4 ⟨HS, X, Y, LX, LY, Lib.hid (Nat.ne_of_lt NYX.out)⟩)
          · go_wp2
            obtain ⟨z3, y, hz, hx', Y, bel, LY, hN⟩ := allocB HS 110 #[.int .i64 0, .int .i64 0, .int .i64 0, .int .i64 0, .int .i64 0, .int .i64 0]
            have NYX := hN X
            clear hN
            rw [← hz.out, ← hx'.out]
            replace X := mB X bel
            replace HS := mT HS bel
            refine HK _ _ (fun _ => HS.out) ?_
            clear HK hz hx' bel
            refine wpAnyE_step (i := 3) rfl (by kernel_rfl) (fun KQ HK => ?_)
            have KX := Lib.hid (spans_any b.lo.x b.lo.y b.lo.z b.hi.x b.hi.y b.hi.z z3)
            go_wp2_with fail
            refine KX.out.mono ?_
            rintro e z4 ⟨rfl, bel⟩
            replace X := mB X bel
            replace Y := mB Y bel
            replace HS := mT HS bel
            clear KX bel
            go_wp2
            refine HK _ _ (fun _ => HS.out) ?_
            clear HK
            exact wpAnyE_at (by kernel_rfl) (by kernel_rfl) (by rfl) (via x y z4 ⟨HS, X, Y, LX, LY, Lib.hid (Nat.ne_of_lt NYX.out)⟩)
        · go_wp2
          obtain ⟨z2, y, hz, hx', Y, bel, LY, hN⟩ := allocB HS 110 #[.int .i64 0, .int .i64 0, .int .i64 0, .int .i64 0, .int .i64 0, .int .i64 0]
          have NYX := hN X
          clear hN
          rw [← hz.out, ← hx'.out]
          replace X := mB X bel
          replace HS := mT HS bel
          refine HK _ _ (fun _ => HS.out) ?_
          clear HK hz hx' bel
          refine wpAnyE_step (i := 1) rfl (by kernel_rfl) (fun KQ HK => ?_)
          have KX := Lib.hid (spans_any a.lo.x a.lo.y a.lo.z a.hi.x a.hi.y a.hi.z z2)
          go_wp2_with fail
          refine KX.out.mono ?_
          rintro e z3 ⟨rfl, bel⟩
          replace X := mB X bel
          replace Y := mB Y bel
          replace HS := mT HS bel
          clear KX bel
          go_wp2
          refine HK _ _ (fun _ => HS.out) ?_
          clear HK
          refine wpAnyE_step (i := 3) rfl (by kernel_rfl) (fun KQ HK => ?_)
          have KX := Lib.hid (spans_any b.lo.x b.lo.y b.lo.z b.hi.x b.hi.y b.hi.z z3)
          go_wp2_with fail
          refine KX.out.mono ?_
          rintro e z4 ⟨rfl, bel⟩
          replace X := mB X bel
          replace Y := mB Y bel
          replace HS := mT HS bel
          clear KX bel
          go_wp2
          refine HK _ _ (fun _ => HS.out) ?_
          clear HK
          exact wpAnyE_at (by kernel_rfl) (by kernel_rfl) (by rfl) (via x y z4 ⟨HS, X, Y, LX, LY, Lib.hid (Nat.ne_of_lt NYX.out)⟩)
      · go_wp2
        obtain ⟨z1, y, hz, hx', Y, bel, LY, hN⟩ := allocB HS 110 #[.int .i64 0, .int .i64 0, .int .i64 0, .int .i64 0, .int .i64 0, .int .i64 0]
        clear hN
        rw [← hz.out, ← hx'.out]
        replace HS := mT HS bel
        refine HK _ _ (fun _ => HS.out) ?_
        clear HK hz hx' bel
        refine wpAnyE_two (i := 1) (j := 4) rfl rfl (by kernel_rfl) (fun KQ HK => ?_) (fun KQ HK => ?_)
        · have KX := Lib.hid (spans_any a.lo.x a.lo.y a.lo.z a.hi.x a.hi.y a.hi.z z1)
          go_wp2_with fail
          refine KX.out.mono ?_
          rintro e z2 ⟨rfl, bel⟩
          replace Y := mB Y bel
          replace HS := mT HS bel
          clear KX bel
          go_wp2
          refine HK _ _ (fun _ => HS.out) ?_
          clear HK
          refine wpAnyE_two (i := 3) (j := 4) rfl rfl (by kernel_rfl) (fun KQ HK => ?_) (fun KQ HK => ?_)
          · have KX := Lib.hid (spans_any b.lo.x b.lo.y b.lo.z b.hi.x b.hi.y b.hi.z z2)
            go_wp2_with fail
            refine KX.out.mono ?_
            rintro e z3 ⟨rfl, bel⟩
            replace Y := mB Y bel
            replace HS := mT HS bel
            clear KX bel
            go_wp2
            refine HK _ _ (fun _ => HS.out) ?_
            clear HK
            refine wpAnyE_step (i := 4) rfl (by kernel_rfl) (fun KQ HK => ?_)
            go_wp2
            obtain ⟨z4, x, hz, hx', X, bel, LX, hN⟩ := allocB HS 110 #[.int .i64 0, .int .i64 0, .int .i64 0, .int .i64 0, .int .i64 0, .int .i64 0]
            have NXY := hN Y
            clear hN
            rw [← hz.out, ← hx'.out]
            replace Y := mB Y bel
            replace HS := mT HS bel
            refine HK _ _ (fun _ => HS.out) ?_
            clear HK hz hx' bel
            exact wpAnyE_at (by kernel_rfl) (by kernel_rfl) (by rfl) (via x y z4 ⟨HS, X, Y, LX, LY, Lib.hid (Nat.ne_of_gt NXY.out)⟩)
          · go_wp2
            obtain ⟨z3, x, hz, hx', X, bel, LX, hN⟩ := allocB HS 110 #[.int .i64 0, .int .i64 0, .int .i64 0, .int .i64 0, .int .i64 0, .int .i64 0]
            have NXY := hN Y
            clear hN
            rw [← hz.out, ← hx'.out]
            replace Y := mB Y bel
            replace HS := mT HS bel
            refine HK _ _ (fun _ => HS.out) ?_
            clear HK hz hx' bel
            refine wpAnyE_step (i := 3) rfl (by kernel_rfl) (fun KQ HK => ?_)
            have KX := Lib.hid (spans_any b.lo.x b.lo.y b.lo.z b.hi.x b.hi.y b.hi.z z3)
            go_wp2_with fail
            refine KX.out.mono ?_
            rintro e z4 ⟨rfl, bel⟩
            replace Y := mB Y bel
            replace X := mB X bel
            replace HS := mT HS bel
            clear KX bel
            go_wp2
            refine HK _ _ (fun _ => HS.out) ?_
            clear HK
            exact wpAnyE_at (by kernel_rfl) (by kernel_rfl) (by rfl) (via x y z4 ⟨HS, X, Y, LX, LY, Lib.hid (Nat.ne_of_gt NXY.out)⟩)
        · go_wp2
          obtain ⟨z2, x, hz, hx', X, bel, LX, hN⟩ := allocB HS 110 #[.int .i64 0, .int .i64 0, .int .i64 0, .int .i64 0, .int .i64 0, .int .i64 0]
          have NXY := hN Y
          clear hN
          rw [← hz.out, ← hx'.out]
          replace Y := mB Y bel
          replace HS := mT HS bel
          refine HK _ _ (fun _ => HS.out) ?_
          clear HK hz hx' bel
          refine wpAnyE_step (i := 1) rfl (by kernel_rfl) (fun KQ HK => ?_)
          have KX := Lib.hid (spans_any a.lo.x a.lo.y a.lo.z a.hi.x a.hi.y a.hi.z z2)
          go_wp2_with fail
          refine KX.out.mono ?_
          rintro e z3 ⟨rfl, bel⟩
          replace Y := mB Y bel
          replace X := mB X bel
          replace HS := mT HS bel
          clear KX bel
          go_wp2
          refine HK _ _ (fun _ => HS.out) ?_
          clear HK
          refine wpAnyE_step (i := 3) rfl (by kernel_rfl) (fun KQ HK => ?_)
          have KX := Lib.hid (spans_any b.lo.x b.lo.y b.lo.z b.hi.x b.hi.y b.hi.z z3)
          go_wp2_with fail
          refine KX.out.mono ?_
          rintro e z4 ⟨rfl, bel⟩
          replace Y := mB Y bel
          replace X := mB X bel
          replace HS := mT HS bel
          clear KX bel
          go_wp2
          refine HK _ _ (fun _ => HS.out) ?_
          clear HK
          exact wpAnyE_at (by kernel_rfl) (by kernel_rfl) (by rfl) (via x y z4 ⟨HS, X, Y, LX, LY, Lib.hid (Nat.ne_of_gt NXY.out)⟩)
    rintro x y z ⟨HS, X, Y, LX, LY, PXY⟩
    refine wpAnyE_step (i := 6) rfl (by kernel_rfl) (fun KQ HK => ?_)
    (try go_simp)
    refine wpList_storeB rfl 110 _ _ rfl _ _ _ rfl rfl (by kernel_rfl) X.out rfl (by simp [Value.oneCell']) ?_
    intro ya hSt hgr
    replace HS := gT HS hgr LX.out
    replace X := Lib.hid hSt
    replace Y := gB Y hgr PXY.out
    clear hSt hgr
    (try simp only [Act.put])
    go_wp2
    refine HK _ _ (fun _ => HS.out) ?_
    clear HK
    refine wpAnyE_step (i := 7) rfl (by kernel_rfl) (fun KQ HK => ?_)
    (try go_simp)
    refine wpList_storeB rfl 110 _ _ rfl _ _ _ rfl rfl (by kernel_rfl) Y.out rfl (by simp [Value.oneCell']) ?_
    intro yb hSt hgr
    replace HS := gT HS hgr LY.out
    replace Y := Lib.hid hSt
    replace X := gB X hgr PXY.out.symm
    clear hSt hgr
    (try simp only [Act.put])
    go_wp2
    refine HK _ _ (fun _ => HS.out) ?_
    clear HK
    have NXBA := Lib.hid (Nat.lt_of_lt_of_le BA.out.lt LX.out)
    have NXBB := Lib.hid (Nat.lt_of_lt_of_le BB.out.lt LX.out)
    have NXBR := Lib.hid (Nat.lt_of_lt_of_le BR.out.lt LX.out)
    replace LX := Lib.hid (Nat.le_trans HB.out.size LX.out)
    have NYBA := Lib.hid (Nat.lt_of_lt_of_le BA.out.lt LY.out)
    have NYBB := Lib.hid (Nat.lt_of_lt_of_le BB.out.lt LY.out)
    have NYBR := Lib.hid (Nat.lt_of_lt_of_le BR.out.lt LY.out)
    replace LY := Lib.hid (Nat.le_trans HB.out.size LY.out)
    replace BA := mB BA HS.out
    replace BB := mB BB HS.out
    replace BR := mB BR HS.out
    replace HB := mT HB HS.out
    clear HS
    refine wpAnyE_done (by kernel_rfl) ?_
    go_wp2_with fail
    go_meet
    have n_XBA := NXBA.out
    have n_XBB := NXBB.out
    have n_XBR := NXBR.out
    have p_XY := PXY.out
    have nn_BA := NYBA.out
    have nn_BB := NYBB.out
    have nn_BR := NYBR.out
    exact ⟨x, y, rfl, rfl, ⟨X.out, Y.out, by omega, by omega, by omega⟩, BA.out, BB.out, BR.out, HB.out⟩
  case rest =>
    obtain ⟨x, y, rfl, rfl, ⟨qX, qY, hx1, hx2, hx3⟩, qBA, qBB, qBR, qHB⟩ := hcut
    have BA := Lib.hid qBA
    have BB := Lib.hid qBB
    have BR := Lib.hid qBR
    have HB := Lib.hid qHB
    clear qBA qBB qBR qHB
    have X := Lib.hid qX
    have Y := Lib.hid qY
    have HX1 := Lib.hid hx1
    have HX2 := Lib.hid hx2
    have HX3 := Lib.hid hx3
    clear qX qY hx1 hx2 hx3 BA BB
    go_wp2
    go_loopw [12] (fun s12 wr => RowKit.Hid ((s12 = .int .i64 (0 : Nat) ∧ HasBlk wr (w.heap.size + 1 + 1) 50 #[.int .i64 0, .int .i64 0, .int .i64 0, .int .i64 0, .int .i64 0, .int .i64 0] ∧ HasBlk wr x 110 #[.int .i64 a.lo.x, .int .i64 a.hi.x, .int .i64 a.lo.y, .int .i64 a.hi.y, .int .i64 a.lo.z, .int .i64 a.hi.z] ∧ HasBlk wr y 110 #[.int .i64 b.lo.x, .int .i64 b.hi.x, .int .i64 b.lo.y, .int .i64 b.hi.y, .int .i64 b.lo.z, .int .i64 b.hi.z] ∧ Below w.heap.size w wr) ∨ ((s12 = .int .i64 (1 : Nat) ∧ HasBlk wr (w.heap.size + 1 + 1) 50 #[.int .i64 0, .int .i64 0, .int .i64 0, .int .i64 0, .int .i64 0, .int .i64 0] ∧ HasBlk wr x 110 #[.int .i64 ((min a.lo.x b.lo.x)), .int .i64 ((max a.hi.x b.hi.x)), .int .i64 a.lo.y, .int .i64 a.hi.y, .int .i64 a.lo.z, .int .i64 a.hi.z] ∧ HasBlk wr y 110 #[.int .i64 b.lo.x, .int .i64 b.hi.x, .int .i64 b.lo.y, .int .i64 b.hi.y, .int .i64 b.lo.z, .int .i64 b.hi.z] ∧ Below w.heap.size w wr) ∨ ((s12 = .int .i64 (2 : Nat) ∧ HasBlk wr (w.heap.size + 1 + 1) 50 #[.int .i64 0, .int .i64 0, .int .i64 0, .int .i64 0, .int .i64 0, .int .i64 0] ∧ HasBlk wr x 110 #[.int .i64 ((min a.lo.x b.lo.x)), .int .i64 ((max a.hi.x b.hi.x)), .int .i64 ((min a.lo.y b.lo.y)), .int .i64 ((max a.hi.y b.hi.y)), .int .i64 a.lo.z, .int .i64 a.hi.z] ∧ HasBlk wr y 110 #[.int .i64 b.lo.x, .int .i64 b.hi.x, .int .i64 b.lo.y, .int .i64 b.hi.y, .int .i64 b.lo.z, .int .i64 b.hi.z] ∧ Below w.heap.size w wr) ∨ ((s12 = .int .i64 (3 : Nat) ∧ HasBlk wr (w.heap.size + 1 + 1) 50 #[.int .i64 0, .int .i64 0, .int .i64 0, .int .i64 0, .int .i64 0, .int .i64 0] ∧ HasBlk wr x 110 #[.int .i64 ((min a.lo.x b.lo.x)), .int .i64 ((max a.hi.x b.hi.x)), .int .i64 ((min a.lo.y b.lo.y)), .int .i64 ((max a.hi.y b.hi.y)), .int .i64 ((min a.lo.z b.lo.z)), .int .i64 ((max a.hi.z b.hi.z))] ∧ HasBlk wr y 110 #[.int .i64 b.lo.x, .int .i64 b.hi.x, .int .i64 b.lo.y, .int .i64 b.hi.y, .int .i64 b.lo.z, .int .i64 b.hi.z] ∧ Below w.heap.size w wr)))))) (fun s12 wr => 3 - (intOf s12).toNat)
    case atStart => exact Lib.hid (.inl ⟨rfl, BR.out, X.out, Y.out, HB.out⟩)
    case round =>
      clear BR X Y HB
      rcases hrel.out with ⟨rfl, qBR, qX, qY, qHB⟩ | ⟨rfl, qBR, qX, qY, qHB⟩ | ⟨rfl, qBR, qX, qY, qHB⟩ | ⟨rfl, qBR, qX, qY, qHB⟩
      · have BR := Lib.hid qBR
        have X := Lib.hid qX
        have Y := Lib.hid qY
        have HB := Lib.hid qHB
        clear qBR qX qY qHB
        go_upto_region 5 with fail
        have hb := bld_109 (min a.lo.x b.lo.x) (max a.hi.x b.hi.x)
        have e0 := fun pb : BW wr => BW.cell (X.out.at 0 rfl) X.out.lt pb
        have e1 := fun pb : BW wr => BW.cell (X.out.at 1 rfl) X.out.lt pb
        have e2 := fun pb : BW wr => BW.cell (Y.out.at 0 rfl) Y.out.lt pb
        have e3 := fun pb : BW wr => BW.cell (Y.out.at 1 rfl) Y.out.lt pb
        refine wp_region_bw_tail 21 (by kernel_rfl) (by kernel_rfl) ?_
        simp only [List.take_succ_cons, List.take_zero, List.drop_succ_cons, List.drop_zero]
        repeat (go_big_quiet_step (fail))
        refine wpQuiet_nil ?_
        intro _ hw'
        obtain ⟨pq, hw''⟩ := hw'
        subst hw''
        clear e0 e1 e2 e3
        replace BR := mB BR pq.h
        replace X := mB X pq.h
        replace Y := mB Y pq.h
        replace HB := mT HB pq.h
        generalize pq.W = u1 at *
        clear pq
        clear hb
        have x_ := X.out.f6
        go_wp2
        clear x_
        have qBR := (BR.out.far (p := ⟨x, 0, none⟩) (by have := HX1.out; have := HX2.out; have := HX3.out; first | omega | (simp; done) | (simp; omega)) (.int .i64 ((min a.lo.x b.lo.x)))).far (p := ⟨x, 1, none⟩) (by have := HX1.out; have := HX2.out; have := HX3.out; first | omega | (simp; done) | (simp; omega)) (.int .i64 ((max a.hi.x b.hi.x)))
        have qY := (Y.out.far (p := ⟨x, 0, none⟩) (by have := HX1.out; have := HX2.out; have := HX3.out; first | omega | (simp; done) | (simp; omega)) (.int .i64 ((min a.lo.x b.lo.x)))).far (p := ⟨x, 1, none⟩) (by have := HX1.out; have := HX2.out; have := HX3.out; first | omega | (simp; done) | (simp; omega)) (.int .i64 ((max a.hi.x b.hi.x)))
        have qX : HasBlk ((u1.setCell ⟨x, 0, none⟩ (.int .i64 ((min a.lo.x b.lo.x)))).setCell ⟨x, 1, none⟩ (.int .i64 ((max a.hi.x b.hi.x)))) x 110 #[.int .i64 ((min a.lo.x b.lo.x)), .int .i64 ((max a.hi.x b.hi.x)), .int .i64 a.lo.y, .int .i64 a.hi.y, .int .i64 a.lo.z, .int .i64 a.hi.z] := by simpa using (X.out.set 0 (.int .i64 ((min a.lo.x b.lo.x)))).set 1 (.int .i64 ((max a.hi.x b.hi.x)))
        have qHB := Below.setCell (p := ⟨x, 1, none⟩) (Below.setCell (p := ⟨x, 0, none⟩) HB.out (by show w.heap.size ≤ x; have := HX2.out; omega) (.int .i64 ((min a.lo.x b.lo.x)))) (by show w.heap.size ≤ x; have := HX2.out; omega) (.int .i64 ((max a.hi.x b.hi.x)))
        generalize ((u1.setCell ⟨x, 0, none⟩ (.int .i64 ((min a.lo.x b.lo.x)))).setCell ⟨x, 1, none⟩ (.int .i64 ((max a.hi.x b.hi.x)))) = u2 at *
        go_roundw
        case rel => exact Lib.hid (.inr ((.inl ⟨by go_num, qBR, qX, qY, qHB⟩)))
        case measure => simp [intOf]
      · have BR := Lib.hid qBR
        have X := Lib.hid qX
        have Y := Lib.hid qY
        have HB := Lib.hid qHB
        clear qBR qX qY qHB
        go_upto_region 5 with fail
        have hb := bld_109 (min a.lo.y b.lo.y) (max a.hi.y b.hi.y)
        have e0 := fun pb : BW wr => BW.cell (X.out.at 2 rfl) X.out.lt pb
        have e1 := fun pb : BW wr => BW.cell (X.out.at 3 rfl) X.out.lt pb
        have e2 := fun pb : BW wr => BW.cell (Y.out.at 2 rfl) Y.out.lt pb
        have e3 := fun pb : BW wr => BW.cell (Y.out.at 3 rfl) Y.out.lt pb
        refine wp_region_bw_tail 21 (by kernel_rfl) (by kernel_rfl) ?_
        simp only [List.take_succ_cons, List.take_zero, List.drop_succ_cons, List.drop_zero]
        repeat (go_big_quiet_step (fail))
        refine wpQuiet_nil ?_
        intro _ hw'
        obtain ⟨pq, hw''⟩ := hw'
        subst hw''
        clear e0 e1 e2 e3
        replace BR := mB BR pq.h
        replace X := mB X pq.h
        replace Y := mB Y pq.h
        replace HB := mT HB pq.h
        generalize pq.W = u1 at *
        clear pq
        clear hb
        have x_ := X.out.f6
        go_wp2
        clear x_
        have qBR := (BR.out.far (p := ⟨x, 2, none⟩) (by have := HX1.out; have := HX2.out; have := HX3.out; first | omega | (simp; done) | (simp; omega)) (.int .i64 ((min a.lo.y b.lo.y)))).far (p := ⟨x, 3, none⟩) (by have := HX1.out; have := HX2.out; have := HX3.out; first | omega | (simp; done) | (simp; omega)) (.int .i64 ((max a.hi.y b.hi.y)))
        have qY := (Y.out.far (p := ⟨x, 2, none⟩) (by have := HX1.out; have := HX2.out; have := HX3.out; first | omega | (simp; done) | (simp; omega)) (.int .i64 ((min a.lo.y b.lo.y)))).far (p := ⟨x, 3, none⟩) (by have := HX1.out; have := HX2.out; have := HX3.out; first | omega | (simp; done) | (simp; omega)) (.int .i64 ((max a.hi.y b.hi.y)))
        have qX : HasBlk ((u1.setCell ⟨x, 2, none⟩ (.int .i64 ((min a.lo.y b.lo.y)))).setCell ⟨x, 3, none⟩ (.int .i64 ((max a.hi.y b.hi.y)))) x 110 #[.int .i64 ((min a.lo.x b.lo.x)), .int .i64 ((max a.hi.x b.hi.x)), .int .i64 ((min a.lo.y b.lo.y)), .int .i64 ((max a.hi.y b.hi.y)), .int .i64 a.lo.z, .int .i64 a.hi.z] := by simpa using (X.out.set 2 (.int .i64 ((min a.lo.y b.lo.y)))).set 3 (.int .i64 ((max a.hi.y b.hi.y)))
        have qHB := Below.setCell (p := ⟨x, 3, none⟩) (Below.setCell (p := ⟨x, 2, none⟩) HB.out (by show w.heap.size ≤ x; have := HX2.out; omega) (.int .i64 ((min a.lo.y b.lo.y)))) (by show w.heap.size ≤ x; have := HX2.out; omega) (.int .i64 ((max a.hi.y b.hi.y)))
        generalize ((u1.setCell ⟨x, 2, none⟩ (.int .i64 ((min a.lo.y b.lo.y)))).setCell ⟨x, 3, none⟩ (.int .i64 ((max a.hi.y b.hi.y)))) = u2 at *
        go_roundw
        case rel => exact Lib.hid (.inr (.inr ((.inl ⟨by go_num, qBR, qX, qY, qHB⟩))))
        case measure => simp [intOf]
      · have BR := Lib.hid qBR
        have X := Lib.hid qX
        have Y := Lib.hid qY
        have HB := Lib.hid qHB
        clear qBR qX qY qHB
        go_upto_region 5 with fail
        have hb := bld_109 (min a.lo.z b.lo.z) (max a.hi.z b.hi.z)
        have e0 := fun pb : BW wr => BW.cell (X.out.at 4 rfl) X.out.lt pb
        have e1 := fun pb : BW wr => BW.cell (X.out.at 5 rfl) X.out.lt pb
        have e2 := fun pb : BW wr => BW.cell (Y.out.at 4 rfl) Y.out.lt pb
        have e3 := fun pb : BW wr => BW.cell (Y.out.at 5 rfl) Y.out.lt pb
        refine wp_region_bw_tail 21 (by kernel_rfl) (by kernel_rfl) ?_
        simp only [List.take_succ_cons, List.take_zero, List.drop_succ_cons, List.drop_zero]
        repeat (go_big_quiet_step (fail))
        refine wpQuiet_nil ?_
        intro _ hw'
        obtain ⟨pq, hw''⟩ := hw'
        subst hw''
        clear e0 e1 e2 e3
        replace BR := mB BR pq.h
        replace X := mB X pq.h
        replace Y := mB Y pq.h
        replace HB := mT HB pq.h
        generalize pq.W = u1 at *
        clear pq
        clear hb
        have x_ := X.out.f6
        go_wp2
        clear x_
        have qBR := (BR.out.far (p := ⟨x, 4, none⟩) (by have := HX1.out; have := HX2.out; have := HX3.out; first | omega | (simp; done) | (simp; omega)) (.int .i64 ((min a.lo.z b.lo.z)))).far (p := ⟨x, 5, none⟩) (by have := HX1.out; have := HX2.out; have := HX3.out; first | omega | (simp; done) | (simp; omega)) (.int .i64 ((max a.hi.z b.hi.z)))
        have qY := (Y.out.far (p := ⟨x, 4, none⟩) (by have := HX1.out; have := HX2.out; have := HX3.out; first | omega | (simp; done) | (simp; omega)) (.int .i64 ((min a.lo.z b.lo.z)))).far (p := ⟨x, 5, none⟩) (by have := HX1.out; have := HX2.out; have := HX3.out; first | omega | (simp; done) | (simp; omega)) (.int .i64 ((max a.hi.z b.hi.z)))
        have qX : HasBlk ((u1.setCell ⟨x, 4, none⟩ (.int .i64 ((min a.lo.z b.lo.z)))).setCell ⟨x, 5, none⟩ (.int .i64 ((max a.hi.z b.hi.z)))) x 110 #[.int .i64 ((min a.lo.x b.lo.x)), .int .i64 ((max a.hi.x b.hi.x)), .int .i64 ((min a.lo.y b.lo.y)), .int .i64 ((max a.hi.y b.hi.y)), .int .i64 ((min a.lo.z b.lo.z)), .int .i64 ((max a.hi.z b.hi.z))] := by simpa using (X.out.set 4 (.int .i64 ((min a.lo.z b.lo.z)))).set 5 (.int .i64 ((max a.hi.z b.hi.z)))
        have qHB := Below.setCell (p := ⟨x, 5, none⟩) (Below.setCell (p := ⟨x, 4, none⟩) HB.out (by show w.heap.size ≤ x; have := HX2.out; omega) (.int .i64 ((min a.lo.z b.lo.z)))) (by show w.heap.size ≤ x; have := HX2.out; omega) (.int .i64 ((max a.hi.z b.hi.z)))
        generalize ((u1.setCell ⟨x, 4, none⟩ (.int .i64 ((min a.lo.z b.lo.z)))).setCell ⟨x, 5, none⟩ (.int .i64 ((max a.hi.z b.hi.z)))) = u2 at *
        go_roundw
        case rel => exact Lib.hid (.inr (.inr (.inr (⟨by go_num, qBR, qX, qY, qHB⟩))))
        case measure => simp [intOf]
      · have BR := Lib.hid qBR
        have X := Lib.hid qX
        have Y := Lib.hid qY
        have HB := Lib.hid qHB
        clear qBR qX qY qHB
        have x_ := X.out.c6
        have KX := Lib.hid (boxed_any (min a.lo.x b.lo.x) (max a.hi.x b.hi.x) (min a.lo.y b.lo.y) (max a.hi.y b.hi.y) (min a.lo.z b.lo.z) (max a.hi.z b.hi.z) wr)
        go_wp2_with fail
        refine KX.out.mono ?_
        rintro e u1 ⟨rfl, bel⟩
        clear KX
        clear x_
        replace BR := mB BR bel
        replace X := mB X bel
        replace Y := mB Y bel
        replace HB := mT HB bel
        clear bel
        have br_ := BR.out.f6
        go_wp2
        refine bodyPost_ret (v := .agg #[.int .i64 ((min a.lo.x b.lo.x)), .int .i64 ((min a.lo.y b.lo.y)), .int .i64 ((min a.lo.z b.lo.z)), .int .i64 ((max a.hi.x b.hi.x)), .int .i64 ((max a.hi.y b.hi.y)), .int .i64 ((max a.hi.z b.hi.z))]) (by simp [results, Tryd.results75, go_sem, *]) rfl ⟨rfl, ?_⟩
        repeat (refine Below.setCell ?_ (by first | omega | (simp; done) | (simp; omega)) _)
        exact HB.out

theorem of_nil (A : Option Addr) (c : Nat) (w : World) : Calls Tryd.prog 68 #[.slice A 0 c] w fun e w' => e = .returned (.tuple #[.agg #[.int .i64 0, .int .i64 0, .int .i64 0, .int .i64 0, .int .i64 0, .int .i64 0], .int .i64 4]) ∧ Below w.heap.size w w' := by
  obtain ⟨v0, hv0, BR, HB⟩ := lay1 w 50 #[.int .i64 0, .int .i64 0, .int .i64 0, .int .i64 0, .int .i64 0, .int .i64 0]
  go_enter Tryd.func68, Tryd.ntmps68
  go_upto_region 1 with fail
  rw [← hv0.out]
  clear hv0
  have br_ := BR.out.f6
  go_wp2
  refine bodyPost_ret (v := .tuple #[.agg #[.int .i64 0, .int .i64 0, .int .i64 0, .int .i64 0, .int .i64 0, .int .i64 0], .int .i64 4]) (by simp [results, Tryd.results68, go_sem, *]) rfl ⟨rfl, ?_⟩
  repeat (refine Below.setCell ?_ (by first | omega | (simp; done) | (simp; omega)) _)
  exact HB.out

set_option maxRecDepth 100000 in
set_option maxHeartbeats 32000000 in
theorem of_ok (A : Option Addr) (c : Nat) (v : V3) (L : List V3) (hl : ∀ u ∈ v :: L, u.Ok) (hm : L.length < 64) (hcap : L.length + 1 ≤ c) (w : World) (hR : RowL w A 3 V3.cells (v :: L)) : Calls Tryd.prog 68 #[.slice A (v :: L).length c] w fun e w' => e = .returned (.tuple #[.agg #[.int .i64 ((boxOf (v :: L)).lo.x), .int .i64 ((boxOf (v :: L)).lo.y), .int .i64 ((boxOf (v :: L)).lo.z), .int .i64 ((boxOf (v :: L)).hi.x), .int .i64 ((boxOf (v :: L)).hi.y), .int .i64 ((boxOf (v :: L)).hi.z)], .int .i64 0]) ∧ Below w.heap.size w w' := by
  have HR := Lib.hid hR
  have HL := Lib.hid hl
  have HM := Lib.hid hm
  have HCP := Lib.hid hcap
  clear hR hl hm hcap
  obtain ⟨n, hn⟩ : ∃ n, n = L.length + 1 := ⟨_, rfl⟩
  obtain ⟨LL, hLL⟩ : ∃ LL, LL = v :: L := ⟨_, rfl⟩
  rw [show (v :: L).length = n by rw [hn]; rfl]
  have HN := Lib.hid hn
  have HV := Lib.hid hLL
  clear hn
  rw [← hLL] at HR HL
  clear hLL
  have hn1 : 1 ≤ n := by have := HN.out; omega
  have hn2 : n ≤ 64 := by have := HN.out; have := HM.out; omega
  have HLEN := Lib.hid (show LL.length = n by rw [HV.out, HN.out]; rfl)
  have g1 : ((n : Int) == 0) = false := by simp; omega
  have g2 : decide ((4096 : Int) < (n : Int)) = false := decide_eq_false (by omega)
  obtain ⟨v0, hv0, BR, HB⟩ := lay1 w 50 #[.int .i64 0, .int .i64 0, .int .i64 0, .int .i64 0, .int .i64 0, .int .i64 0]
  go_enter Tryd.func68, Tryd.ntmps68
  go_upto_region 1 with fail
  rw [← hv0.out]
  clear hv0
  go_wp2
  clear g1 g2
  go_loopw [19] (fun s wr => ∃ k : Nat, k ≤ n ∧ s = .int .i64 k ∧ HasBlk wr w.heap.size 50 #[.int .i64 0, .int .i64 0, .int .i64 0, .int .i64 0, .int .i64 0, .int .i64 0] ∧ Below w.heap.size w wr) (fun s wr => n - (intOf s).toNat)
  case atStart => exact ⟨0, Nat.zero_le _, rfl, BR.out, HB.out⟩
  case round =>
    clear BR HB
    obtain ⟨k, hk, rfl, qBR, qHB⟩ := hrel
    have BR := Lib.hid qBR
    have HB := Lib.hid qHB
    clear qBR qHB
    by_cases hkn : k < n
    · have d0 : decide ((k : Int) < (n : Int)) = true := decide_eq_true (by omega)
      obtain ⟨g, o, rfl, hg, hc⟩ := HR.out.below HB.out (by rw [HLEN.out]; omega)
      obtain ⟨u, hu⟩ : ∃ u, LL[k]? = some u := ⟨_, List.getElem?_eq_getElem (by rw [HLEN.out]; omega)⟩
      have Uu := Lib.hid (HL.out u (List.mem_of_getElem? hu))
      have c0 := hc (k) u hu 0 _ rfl
      have c1 := hc (k) u hu 1 _ rfl
      have c2 := hc (k) u hu 2 _ rfl
      simp only [Nat.add_zero] at c0 c1 c2
      clear hc hu
      have i1 : (k : Int) < (n : Int) := by omega
      have i0 : (0 : Int) ≤ (k : Int) := by omega
      go_upto_region 6 with fail
      obtain ⟨u0, x6, hz, hx', SX, bA⟩ := laidB wr 27 #[.int .i64 u.x, .int .i64 u.y, .int .i64 u.z]
      rw [← hz.out, ← hx'.out]
      replace BR := mB BR bA
      replace HB := mT HB bA
      clear hz hx' bA
      clear c0 c1 c2 hg
      have sx_ := SX.out.c3
      have KX := Lib.hid (bin_ok (show Wi u.x (-32768) 32768 by have h := Uu.out.1; unfold Wi at *; omega) u0)
      go_wp2_with fail
      refine KX.out.mono ?_
      rintro e u1 ⟨rfl, bel⟩
      clear KX
      clear sx_
      replace BR := mB BR bel
      replace SX := mB SX bel
      replace HB := mT HB bel
      clear bel
      have sx_ := SX.out.c3
      have KX := Lib.hid (bin_ok (show Wi u.y (-32768) 32768 by have h := Uu.out.2.1; unfold Wi at *; omega) u1)
      go_wp2_with fail
      refine KX.out.mono ?_
      rintro e u2 ⟨rfl, bel⟩
      clear KX
      clear sx_
      replace BR := mB BR bel
      replace SX := mB SX bel
      replace HB := mT HB bel
      clear bel
      have sx_ := SX.out.c3
      have KX := Lib.hid (bin_ok (show Wi u.z (-32768) 32768 by have h := Uu.out.2.2; unfold Wi at *; omega) u2)
      go_wp2_with fail
      refine KX.out.mono ?_
      rintro e u3 ⟨rfl, bel⟩
      clear KX
      clear sx_
      replace BR := mB BR bel
      replace SX := mB SX bel
      replace HB := mT HB bel
      clear bel
      clear SX
      go_wp2
      go_roundw
      case rel => exact ⟨k + 1, by omega, by go_num, BR.out, HB.out⟩
      case measure => simp [intOf]; omega
    · obtain rfl : n = k := by omega
      have d0 : decide ((n : Int) < (n : Int)) = false := by simp
      obtain ⟨g, o, rfl, hg, hc⟩ := HR.out.below HB.out (by rw [HLEN.out]; omega)
      have hv0 : LL[0]? = some v := by rw [HV.out]; rfl
      have OV := Lib.hid (HL.out v (List.mem_of_getElem? hv0))
      have c0 := hc 0 v hv0 0 _ rfl
      have c1 := hc 0 v hv0 1 _ rfl
      have c2 := hc 0 v hv0 2 _ rfl
      simp only [Nat.add_zero, Nat.zero_mul] at c0 c1 c2
      clear hc hv0
      have i1 : (0 : Int) < (n : Int) := by omega
      go_upto_region 9 with fail
      obtain ⟨wo, rfl⟩ : ∃ wo : World, wo = wr := ⟨_, rfl⟩
      have e0 := fun pb : BW wo => BW.cell c0 hg pb
      have e1 := fun pb : BW wo => BW.cell c1 hg pb
      have e2 := fun pb : BW wo => BW.cell c2 hg pb
      clear c0 c1 c2 hg
      have hb := bld_50 v.x v.y v.z v.x v.y v.z
      refine wp_region_bw_tail 7 (by kernel_rfl) (by kernel_rfl) ?_
      simp only [List.take_succ_cons, List.take_zero, List.drop_succ_cons, List.drop_zero]
      repeat (go_big_quiet_step (fail))
      refine wpQuiet_nil ?_
      intro _ hw'
      obtain ⟨pq, hw''⟩ := hw'
      subst hw''
      clear e0 e1 e2
      replace BR := mB BR pq.h
      replace HB := mT HB pq.h
      generalize pq.W = u1 at *
      clear pq
      clear hb
      have br_ := BR.out.f6
      go_upto_region 10 with fail
      clear br_
      have qBR : HasBlk ((((((u1.setCell ⟨w.heap.size, 0, none⟩ (.int .i64 v.x)).setCell ⟨w.heap.size, 1, none⟩ (.int .i64 v.y)).setCell ⟨w.heap.size, 2, none⟩ (.int .i64 v.z)).setCell ⟨w.heap.size, 3, none⟩ (.int .i64 v.x)).setCell ⟨w.heap.size, 4, none⟩ (.int .i64 v.y)).setCell ⟨w.heap.size, 5, none⟩ (.int .i64 v.z)) w.heap.size 50 #[.int .i64 ((⟨v, v⟩ : B3).lo.x), .int .i64 ((⟨v, v⟩ : B3).lo.y), .int .i64 ((⟨v, v⟩ : B3).lo.z), .int .i64 ((⟨v, v⟩ : B3).hi.x), .int .i64 ((⟨v, v⟩ : B3).hi.y), .int .i64 ((⟨v, v⟩ : B3).hi.z)] := by simpa using ((((((BR.out.set 0 (.int .i64 v.x)).set 1 (.int .i64 v.y)).set 2 (.int .i64 v.z)).set 3 (.int .i64 v.x)).set 4 (.int .i64 v.y)).set 5 (.int .i64 v.z))
      have qHB : Below w.heap.size w ((((((u1.setCell ⟨w.heap.size, 0, none⟩ (.int .i64 v.x)).setCell ⟨w.heap.size, 1, none⟩ (.int .i64 v.y)).setCell ⟨w.heap.size, 2, none⟩ (.int .i64 v.z)).setCell ⟨w.heap.size, 3, none⟩ (.int .i64 v.x)).setCell ⟨w.heap.size, 4, none⟩ (.int .i64 v.y)).setCell ⟨w.heap.size, 5, none⟩ (.int .i64 v.z)) := (Below.setCell (p := ⟨w.heap.size, 5, none⟩) (Below.setCell (p := ⟨w.heap.size, 4, none⟩) (Below.setCell (p := ⟨w.heap.size, 3, none⟩) (Below.setCell (p := ⟨w.heap.size, 2, none⟩) (Below.setCell (p := ⟨w.heap.size, 1, none⟩) (Below.setCell (p := ⟨w.heap.size, 0, none⟩) HB.out (Nat.le_refl _) (.int .i64 v.x)) (Nat.le_refl _) (.int .i64 v.y)) (Nat.le_refl _) (.int .i64 v.z)) (Nat.le_refl _) (.int .i64 v.x)) (Nat.le_refl _) (.int .i64 v.y)) (Nat.le_refl _) (.int .i64 v.z))
      generalize ((((((u1.setCell ⟨w.heap.size, 0, none⟩ (.int .i64 v.x)).setCell ⟨w.heap.size, 1, none⟩ (.int .i64 v.y)).setCell ⟨w.heap.size, 2, none⟩ (.int .i64 v.z)).setCell ⟨w.heap.size, 3, none⟩ (.int .i64 v.x)).setCell ⟨w.heap.size, 4, none⟩ (.int .i64 v.y)).setCell ⟨w.heap.size, 5, none⟩ (.int .i64 v.z)) = u2 at *
      clear BR HB
      have BR := Lib.hid qBR
      have HB := Lib.hid qHB
      clear qBR qHB
      obtain ⟨m, hm⟩ : ∃ m, m = L.length := ⟨_, rfl⟩
      have hnm : n = m + 1 := by rw [hm]; exact HN.out
      have HMM := Lib.hid hm
      clear hm
      have wn : IntKind.i64.wrap ((n : Int) - 1) = (m : Int) := by rw [IntWalk.i64_in _ (by omega)]; omega
      have wn2 : ((n : Int) - 1).toNat = m := by omega
      have HNM := Lib.hid hnm
      have j1 : (1 : Int) ≤ (n : Int) := by omega
      clear hnm
      by_cases hc1 : c = 1
      · have hm0 : ¬ 0 < m := by have := HN.out; have := HCP.out; have := HNM.out; omega
        have HM0 := Lib.hid hm0
        subst hc1
        clear hm0
        go_wp2
        go_loopw [51] (fun s wr => ∃ (k : Nat) (bx : B3), k ≤ m ∧ s = .int .i64 k ∧ RowKit.Hid (bx = ((L.take (k)).foldl (fun b u => b.join ⟨u, u⟩) (⟨v, v⟩ : B3))) ∧ HasBlk wr w.heap.size 50 #[.int .i64 bx.lo.x, .int .i64 bx.lo.y, .int .i64 bx.lo.z, .int .i64 bx.hi.x, .int .i64 bx.hi.y, .int .i64 bx.hi.z] ∧ Below w.heap.size w wr) (fun s wr => m - (intOf s).toNat)
        case atStart => exact ⟨0, ⟨v, v⟩, Nat.zero_le _, rfl, Lib.hid rfl, BR.out, HB.out⟩
        case round =>
          clear BR HB
          obtain ⟨k, bx, hk, rfl, HX, qBR, qHB⟩ := hrel
          have BR := Lib.hid qBR
          have HB := Lib.hid qHB
          clear qBR qHB
          by_cases hkn : k < m
          rotate_left
          · obtain rfl : m = k := by omega
            have d0 : decide ((m : Int) < (m : Int)) = false := by simp
            have HE := Lib.hid (show boxOf (v :: L) = bx by rw [HX.out, List.take_of_length_le (by rw [← HMM.out]; exact Nat.le_refl _)]; rfl)
            have br_ := BR.out.f6
            go_wp2
            refine bodyPost_ret (v := .tuple #[.agg #[.int .i64 bx.lo.x, .int .i64 bx.lo.y, .int .i64 bx.lo.z, .int .i64 bx.hi.x, .int .i64 bx.hi.y, .int .i64 bx.hi.z], .int .i64 0]) (by simp [results, Tryd.results68, go_sem, *]) rfl ⟨by rw [HE.out], ?_⟩
            repeat (refine Below.setCell ?_ (by first | omega | (simp; done) | (simp; omega)) _)
            exact HB.out
          exact absurd (by omega) HM0.out
      · have HC1 := Lib.hid hc1
        go_wp2
        clear hc1
        go_loopw [51] (fun s wr => ∃ (k : Nat) (bx : B3), k ≤ m ∧ s = .int .i64 k ∧ RowKit.Hid (bx = ((L.take (k)).foldl (fun b u => b.join ⟨u, u⟩) (⟨v, v⟩ : B3))) ∧ HasBlk wr w.heap.size 50 #[.int .i64 bx.lo.x, .int .i64 bx.lo.y, .int .i64 bx.lo.z, .int .i64 bx.hi.x, .int .i64 bx.hi.y, .int .i64 bx.hi.z] ∧ Below w.heap.size w wr) (fun s wr => m - (intOf s).toNat)
        case atStart => exact ⟨0, ⟨v, v⟩, Nat.zero_le _, rfl, Lib.hid rfl, BR.out, HB.out⟩
        case round =>
          clear BR HB
          obtain ⟨k, bx, hk, rfl, HX, qBR, qHB⟩ := hrel
          have BR := Lib.hid qBR
          have HB := Lib.hid qHB
          clear qBR qHB
          by_cases hkn : k < m
          rotate_left
          · obtain rfl : m = k := by omega
            have d0 : decide ((m : Int) < (m : Int)) = false := by simp
            have HE := Lib.hid (show boxOf (v :: L) = bx by rw [HX.out, List.take_of_length_le (by rw [← HMM.out]; exact Nat.le_refl _)]; rfl)
            have br_ := BR.out.f6
            go_wp2
            refine bodyPost_ret (v := .tuple #[.agg #[.int .i64 bx.lo.x, .int .i64 bx.lo.y, .int .i64 bx.lo.z, .int .i64 bx.hi.x, .int .i64 bx.hi.y, .int .i64 bx.hi.z], .int .i64 0]) (by simp [results, Tryd.results68, go_sem, *]) rfl ⟨by rw [HE.out], ?_⟩
            repeat (refine Below.setCell ?_ (by first | omega | (simp; done) | (simp; omega)) _)
            exact HB.out
          have d0 : decide ((k : Int) < (m : Int)) = true := decide_eq_true (by omega)
          obtain ⟨g', o', e', hg, hc⟩ := HR.out.below HB.out (by rw [HLEN.out]; omega)
          injection e' with e'
          injection e' with e1 e2
          subst e1 e2
          obtain ⟨u, hu⟩ : ∃ u, L[k]? = some u := ⟨_, List.getElem?_eq_getElem (by rw [← HMM.out]; exact hkn)⟩
          have hu2 : LL[k + 1]? = some u := by rw [HV.out]; exact hu
          have c0 : wr.cell? ⟨g, o + 3 + k * 3, none⟩ = some (.int .i64 u.x) := by have := hc (k + 1) u hu2 0 _ rfl; rwa [show o + (k + 1) * 3 + 0 = o + 3 + k * 3 by omega] at this
          have c1 : wr.cell? ⟨g, o + 3 + k * 3 + 1, none⟩ = some (.int .i64 u.y) := by have := hc (k + 1) u hu2 1 _ rfl; rwa [show o + (k + 1) * 3 + 1 = o + 3 + k * 3 + 1 by omega] at this
          have c2 : wr.cell? ⟨g, o + 3 + k * 3 + 2, none⟩ = some (.int .i64 u.z) := by have := hc (k + 1) u hu2 2 _ rfl; rwa [show o + (k + 1) * 3 + 2 = o + 3 + k * 3 + 2 by omega] at this
          have HU := Lib.hid hu
          clear hc hu hu2
          have i1 : (k : Int) < (m : Int) := by omega
          have i0 : (0 : Int) ≤ (k : Int) := by omega
          go_upto_region 13 with fail
          obtain ⟨p0, x7, hz, hx', SX, bA⟩ := laidB wr 27 #[.int .i64 u.x, .int .i64 u.y, .int .i64 u.z]
          rw [← hz.out, ← hx'.out]
          replace BR := mB BR bA
          replace HB := mT HB bA
          clear hz hx' bA
          clear c0 c1 c2 hg
          have hb := bld_50 u.x u.y u.z u.x u.y u.z
          have br_ := BR.out.c6
          have sx_ := SX.out.c3
          have KX := Lib.hid (join_any bx ⟨u, u⟩ p0)
          go_wp2_with fail
          refine KX.out.mono ?_
          rintro e p1 ⟨rfl, bel⟩
          clear KX
          clear br_
          clear sx_
          replace BR := mB BR bel
          replace SX := mB SX bel
          replace HB := mT HB bel
          clear bel
          clear hb SX
          have br_ := BR.out.f6
          go_wp2
          clear br_
          have qBR : HasBlk ((((((p1.setCell ⟨w.heap.size, 0, none⟩ (.int .i64 ((bx.join ⟨u, u⟩).lo.x))).setCell ⟨w.heap.size, 1, none⟩ (.int .i64 ((bx.join ⟨u, u⟩).lo.y))).setCell ⟨w.heap.size, 2, none⟩ (.int .i64 ((bx.join ⟨u, u⟩).lo.z))).setCell ⟨w.heap.size, 3, none⟩ (.int .i64 ((bx.join ⟨u, u⟩).hi.x))).setCell ⟨w.heap.size, 4, none⟩ (.int .i64 ((bx.join ⟨u, u⟩).hi.y))).setCell ⟨w.heap.size, 5, none⟩ (.int .i64 ((bx.join ⟨u, u⟩).hi.z))) w.heap.size 50 #[.int .i64 ((bx.join ⟨u, u⟩).lo.x), .int .i64 ((bx.join ⟨u, u⟩).lo.y), .int .i64 ((bx.join ⟨u, u⟩).lo.z), .int .i64 ((bx.join ⟨u, u⟩).hi.x), .int .i64 ((bx.join ⟨u, u⟩).hi.y), .int .i64 ((bx.join ⟨u, u⟩).hi.z)] := by simpa using ((((((BR.out.set 0 (.int .i64 ((bx.join ⟨u, u⟩).lo.x))).set 1 (.int .i64 ((bx.join ⟨u, u⟩).lo.y))).set 2 (.int .i64 ((bx.join ⟨u, u⟩).lo.z))).set 3 (.int .i64 ((bx.join ⟨u, u⟩).hi.x))).set 4 (.int .i64 ((bx.join ⟨u, u⟩).hi.y))).set 5 (.int .i64 ((bx.join ⟨u, u⟩).hi.z)))
          have qHB : Below w.heap.size w ((((((p1.setCell ⟨w.heap.size, 0, none⟩ (.int .i64 ((bx.join ⟨u, u⟩).lo.x))).setCell ⟨w.heap.size, 1, none⟩ (.int .i64 ((bx.join ⟨u, u⟩).lo.y))).setCell ⟨w.heap.size, 2, none⟩ (.int .i64 ((bx.join ⟨u, u⟩).lo.z))).setCell ⟨w.heap.size, 3, none⟩ (.int .i64 ((bx.join ⟨u, u⟩).hi.x))).setCell ⟨w.heap.size, 4, none⟩ (.int .i64 ((bx.join ⟨u, u⟩).hi.y))).setCell ⟨w.heap.size, 5, none⟩ (.int .i64 ((bx.join ⟨u, u⟩).hi.z))) := (Below.setCell (p := ⟨w.heap.size, 5, none⟩) (Below.setCell (p := ⟨w.heap.size, 4, none⟩) (Below.setCell (p := ⟨w.heap.size, 3, none⟩) (Below.setCell (p := ⟨w.heap.size, 2, none⟩) (Below.setCell (p := ⟨w.heap.size, 1, none⟩) (Below.setCell (p := ⟨w.heap.size, 0, none⟩) HB.out (Nat.le_refl _) (.int .i64 ((bx.join ⟨u, u⟩).lo.x))) (Nat.le_refl _) (.int .i64 ((bx.join ⟨u, u⟩).lo.y))) (Nat.le_refl _) (.int .i64 ((bx.join ⟨u, u⟩).lo.z))) (Nat.le_refl _) (.int .i64 ((bx.join ⟨u, u⟩).hi.x))) (Nat.le_refl _) (.int .i64 ((bx.join ⟨u, u⟩).hi.y))) (Nat.le_refl _) (.int .i64 ((bx.join ⟨u, u⟩).hi.z)))
          generalize ((((((p1.setCell ⟨w.heap.size, 0, none⟩ (.int .i64 ((bx.join ⟨u, u⟩).lo.x))).setCell ⟨w.heap.size, 1, none⟩ (.int .i64 ((bx.join ⟨u, u⟩).lo.y))).setCell ⟨w.heap.size, 2, none⟩ (.int .i64 ((bx.join ⟨u, u⟩).lo.z))).setCell ⟨w.heap.size, 3, none⟩ (.int .i64 ((bx.join ⟨u, u⟩).hi.x))).setCell ⟨w.heap.size, 4, none⟩ (.int .i64 ((bx.join ⟨u, u⟩).hi.y))).setCell ⟨w.heap.size, 5, none⟩ (.int .i64 ((bx.join ⟨u, u⟩).hi.z))) = p2 at *
          go_roundw
          case rel => exact ⟨k + 1, bx.join ⟨u, u⟩, by omega, by go_num, Lib.hid (by rw [List.take_add_one, HU.out, HX.out]; simp), qBR, qHB⟩
          case measure => simp [intOf]; omega
end Go.Proofs.YtemopgpcpjnmkaaDoor
