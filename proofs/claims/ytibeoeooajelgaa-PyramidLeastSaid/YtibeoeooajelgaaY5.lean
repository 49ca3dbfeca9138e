/- pyramid: low. -/
import Derived.Test.YtibeoeooajelgaaY4
import Derived.Test.YtibeoeooajelgaaHeldE2
namespace Go.Proofs.Ytibeoeooajelgaa
open Go.RowKit
set_option linter.unusedVariables false
theorem POk.lev {w : World} {p : PP} {d : PD} {g o i j : Nat} (h : POk w p d) (hA : p.A = some ⟨g, o, none⟩) (hi : i < d.n) (hj : j < 3) : w.cell? ⟨g, o + i * 3 + j, none⟩ = some (pvc p d i j) := by
  obtain ⟨g', o', h1, _, h2⟩ := h.ls (by omega)
  rw [hA] at h1
  injection h1 with h1
  injection h1 with h1 h3
  subst h1 h3
  exact h2 i hi j hj
theorem below_st3 {w : World} {b g : Nat} {u v x : Value} (h : b ≤ g) (hb : b ≤ w.heap.size) : Below b w (((w.setCell ⟨g, 0, none⟩ u).setCell ⟨g, 1, none⟩ v).setCell ⟨g, 2, none⟩ x) := by
  refine Below.setCell (Below.setCell (Below.setCell (Below.refl b w) h _) h _) h _

set_option maxRecDepth 100000 in
set_option maxHeartbeats 16000000 in
theorem low_step (l : LD) (K : Nat) (p : PP) (r : RC) (hle : l.Le) (h1 : 1 ≤ l.W) (h2 : 1 ≤ l.H) (h3 : l.W ≤ 64) (h4 : l.H ≤ 64) (hK : K ≤ 6) (k : Nat) (hk : k ≤ K) (ih : ∀ k', k = k' + 1 → ∀ (x y : Nat) (b : Int), (x + 1) * 2 ^ k' ≤ 128 → (y + 1) * 2 ^ k' ≤ 128 → ∀ w, POk w p (l.pd K) → Calls Try.prog 69 #[.agg #[.slice p.A (K + 1) p.c], .int .i64 k', .int .i64 x, .int .i64 y, .agg #[.int .i64 r.X0, .int .i64 r.Y0, .int .i64 r.X1, .int .i64 r.Y1], .int .i64 b] w fun e w' => (∃ m, e = .returned (.int .i64 m) ∧ LstB (l.blk r k' x y) l.f b m) ∧ Below w.heap.size w w') (x y : Nat) (b : Int) (hx : (x + 1) * 2 ^ k ≤ 128) (hy : (y + 1) * 2 ^ k ≤ 128) (w : World) (hok : POk w p (l.pd K)) :
    Calls Try.prog 69 #[.agg #[.slice p.A (K + 1) p.c], .int .i64 k, .int .i64 x, .int .i64 y, .agg #[.int .i64 r.X0, .int .i64 r.Y0, .int .i64 r.X1, .int .i64 r.Y1], .int .i64 b] w fun e w' => (∃ m, e = .returned (.int .i64 m) ∧ LstB (l.blk r k x y) l.f b m) ∧ Below w.heap.size w w' := by
  have IH0 := Lib.hid ih
  clear ih
  obtain ⟨A, c, KA, KC⟩ := p
  obtain ⟨X0, Y0, X1, Y1⟩ := r
  dsimp only
  have OK := Lib.hid hok
  obtain ⟨gA, oA, hA, hgA, hcA⟩ := hok.ls (by show 0 < K + 1; omega)
  dsimp only at hA
  subst hA
  have NK : (k : Int) < ((K + 1 : Nat) : Int) := by omega
  have NK2 : ¬ ((K : Int) + 1 ≤ (k : Int)) := by omega
  have NK3 : (k : Int) < (K : Int) + 1 := by omega
  have NK0 : (0 : Int) ≤ (k : Int) := by omega
  obtain ⟨n, hn⟩ : ∃ n, n = 2 ^ k := ⟨_, rfl⟩
  have hn64 : n ≤ 64 := by
    have := Nat.pow_le_pow_right (n := 2) (by omega) (show k ≤ 6 by omega)
    rw [hn]; omega
  have wn : IntKind.i64.wrap ((2 : Int) ^ k) = (n : Int) := by
    rw [hn]; push_cast
    refine IntWalk.i64_in _ ?_
    have : ((2 ^ k : Nat) : Int) ≤ 64 := by rw [← hn]; omega
    have h0 : (0 : Int) ≤ ((2 ^ k : Nat) : Int) := by omega
    push_cast at this h0
    omega
  have B2 := Lib.hid (((Below.refl w.heap.size w).alloc (Nat.le_refl _) (.cells #[.slice (some ⟨gA, oA, none⟩) (K + 1) c] 51)).alloc (by simp) (.cells #[.int .i64 X0, .int .i64 Y0, .int .i64 X1, .int .i64 Y1] 53))
  have S1 := Lib.hid ((hasBlk_new w 51 #[.slice (some ⟨gA, oA, none⟩) (K + 1) c]).below ((Below.refl _ _).alloc (Nat.le_refl _) (.cells #[.int .i64 X0, .int .i64 Y0, .int .i64 X1, .int .i64 Y1] 53)))
  have S2 := Lib.hid (hasBlk_new (w.alloc (.cells #[.slice (some ⟨gA, oA, none⟩) (K + 1) c] 51)) 53 #[.int .i64 X0, .int .i64 Y0, .int .i64 X1, .int .i64 Y1])
  have NN := Lib.hid hn
  have e1 : (w.alloc (.cells #[.slice (some ⟨gA, oA, none⟩) (K + 1) c] 51)).heap.size = w.heap.size + 1 := by simp
  rw [e1] at S2
  clear hok hcA hn e1
  go_enter Try.func69, Try.ntmps69
  go_upto_region 1 with fail
  generalize hwb : ((w.alloc (.cells #[.slice (some ⟨gA, oA, none⟩) (K + 1) c] 51)).alloc (.cells #[.int .i64 X0, .int .i64 Y0, .int .i64 X1, .int .i64 Y1] 53)) = wa at *
  clear hwb
  have CE := Lib.hid (fun (W : World) (hW : Below wa.heap.size wa W) (j : Nat) (hj : j < 3) => ((OK.out.below B2.out).below hW).lev (i := k) rfl (show k < K + 1 by omega) hj)
  have HS := Lib.hid (show (fun Wo => HasBlk Wo w.heap.size 51 #[.slice (some ⟨gA, oA, none⟩) (K + 1) c] ∧ Below wa.heap.size wa Wo) wa.drew from ⟨S1.out.below (Below.refl _ _).drew, (Below.refl _ _).drew⟩)
  refine wp_region_E (fun Wo => HasBlk Wo w.heap.size 51 #[.slice (some ⟨gA, oA, none⟩) (K + 1) c] ∧ Below wa.heap.size wa Wo) 99 (by kernel_rfl) ?_
  generalize gwd : wa.drew = v1 at *
  clear gwd
  refine wpAnyE_takeA (i := 0) (v := .pointer (some ⟨w.heap.size, 0, none⟩)) rfl (by kernel_rfl) (fun _ _ _ h => h) (.inl ⟨by first | kernel_rfl | rfl, fun W hW => ?_⟩) HS.out ?_
  · obtain ⟨hWP, hWA⟩ := hW
    have r0 := hWP.cell 0
    simp at r0

    go_simp
  simp only [Act.put, List.setIfInBounds_toArray]
  refine wpAnyE_takeA (i := 1) (v := .slice (some ⟨gA, oA, none⟩) (K + 1) c) rfl (by kernel_rfl) (fun _ _ _ h => h) (.inl ⟨by first | kernel_rfl | rfl, fun W hW => ?_⟩) HS.out ?_
  · obtain ⟨hWP, hWA⟩ := hW
    have r0 := hWP.cell 0
    simp at r0

    go_simp
  simp only [Act.put]
  refine wpAnyE_takeA (i := 2) (v := .int .i64 k) rfl (by kernel_rfl) (fun _ _ _ h => h) (.inl ⟨by first | kernel_rfl | rfl, fun W hW => ?_⟩) HS.out ?_
  · obtain ⟨hWP, hWA⟩ := hW
    have r0 := hWP.cell 0
    simp at r0

    go_simp
  simp only [Act.put]
  refine wpAnyE_takeA (i := 3) (v := .pointer (some ⟨gA, (oA + k * 3), none⟩)) rfl (by kernel_rfl) (fun _ _ _ h => h) (.inl ⟨by first | kernel_rfl | rfl, fun W hW => ?_⟩) HS.out ?_
  · obtain ⟨hWP, hWA⟩ := hW
    have r0 := hWP.cell 0
    simp at r0

    go_simp
  simp only [Act.put]
  refine wpAnyE_takeA (i := 4) (v := .agg #[.int .i64 (l.lev k).W, .int .i64 (l.lev k).H, .slice (KA k) (l.sz k) (KC k)]) rfl (by kernel_rfl) (fun _ _ _ h => h) (.inl ⟨by first | kernel_rfl | rfl, fun W hW => ?_⟩) HS.out ?_
  · obtain ⟨hWP, hWA⟩ := hW
    have r0 := hWP.cell 0
    simp at r0
    have q0 := CE.out W hWA 0 (by omega)
    have q1 := CE.out W hWA 1 (by omega)
    have q2 := CE.out W hWA 2 (by omega)
    simp [pvc, LD.pd] at q0 q1 q2
    go_simp
  simp only [Act.put]
  refine wpAnyE_takeA (i := 5) (v := .int .i64 k) rfl (by kernel_rfl) (fun _ _ _ h => h) (.inl ⟨by first | kernel_rfl | rfl, fun W hW => ?_⟩) HS.out ?_
  · obtain ⟨hWP, hWA⟩ := hW
    have r0 := hWP.cell 0
    simp at r0

    go_simp
  simp only [Act.put]
  refine wpAnyE_takeA (i := 6) (v := .int .i64 n) rfl (by kernel_rfl) (fun _ _ _ h => h) (.inl ⟨by first | kernel_rfl | rfl, fun W hW => ?_⟩) HS.out ?_
  · obtain ⟨hWP, hWA⟩ := hW
    have r0 := hWP.cell 0
    simp at r0

    go_simp
  simp only [Act.put]
  refine wpAnyE_step (i := 7) rfl (by kernel_rfl) (fun KQ HK => ?_)
  go_wp2
  have B1 := Lib.hid (show Below wa.heap.size wa v1 from HS.out.2)
  have hb0 : wa.heap.size ≤ v1.heap.size := B1.out.size
  have hbel := (Below.refl v1.heap.size v1).alloc (Nat.le_refl _) (.cells #[.int .i64 0, .int .i64 0, .slice none 0 0] 74)
  have ZX := Lib.hid (hasBlk_new v1 74 #[.int .i64 0, .int .i64 0, .slice none 0 0])
  have S1' := Lib.hid (S1.out.below (B1.out.trans (hbel.mono hb0)))
  have S2' := Lib.hid (S2.out.below (B1.out.trans (hbel.mono hb0)))
  have B1' := Lib.hid (B1.out.trans (hbel.mono hb0))
  have hb1 := S1.out.lt
  have hb2 := S2.out.lt
  have HS' := Lib.hid (show (fun Wo => HasBlk Wo w.heap.size 51 #[.slice (some ⟨gA, oA, none⟩) (K + 1) c] ∧ Below wa.heap.size wa Wo) (v1.alloc (.cells #[.int .i64 0, .int .i64 0, .slice none 0 0] 74)) from ⟨S1'.out, B1'.out⟩)
  clear hbel B1 S1 S2 HS
  have S1 := Lib.hid S1'.out
  have S2 := Lib.hid S2'.out
  have B1 := Lib.hid B1'.out
  have HS := Lib.hid HS'.out
  clear S1' S2' B1' HS'
  refine HK _ _ (fun _ => HS.out) ?_
  clear HK
  obtain ⟨t3, ht3⟩ : ∃ t3, t3 = v1.heap.size := ⟨_, rfl⟩
  rw [← ht3] at ZX hb0 ⊢
  clear ht3
  generalize v1.alloc (.cells #[.int .i64 0, .int .i64 0, .slice none 0 0] 74) = v2 at *
  refine wpAnyE_step (i := 8) rfl (by kernel_rfl) (fun KQ HK => ?_)
  have z0 := ZX.out.cell 0
  have z1 := ZX.out.cell 1
  have z2 := ZX.out.cell 2
  have zf0 := ZX.out.frozen 0
  have zf1 := ZX.out.frozen 1
  have zf2 := ZX.out.frozen 2
  have zz := ZX.out.lt
  simp at z0 z1 z2
  go_wp2
  have S1' := Lib.hid (show HasBlk (((v2.setCell ⟨t3, 0, none⟩ (.int .i64 (l.lev k).W)).setCell ⟨t3, 1, none⟩ (.int .i64 (l.lev k).H)).setCell ⟨t3, 2, none⟩ (.slice (KA k) (l.sz k) (KC k))) _ _ _ from (((S1.out.far (p := ⟨t3, 0, none⟩) (by simp; omega) (.int .i64 (l.lev k).W)).far (p := ⟨t3, 1, none⟩) (by simp; omega) (.int .i64 (l.lev k).H)).far (p := ⟨t3, 2, none⟩) (by simp; omega) (.slice (KA k) (l.sz k) (KC k))))
  have S2' := Lib.hid (show HasBlk (((v2.setCell ⟨t3, 0, none⟩ (.int .i64 (l.lev k).W)).setCell ⟨t3, 1, none⟩ (.int .i64 (l.lev k).H)).setCell ⟨t3, 2, none⟩ (.slice (KA k) (l.sz k) (KC k))) _ _ _ from (((S2.out.far (p := ⟨t3, 0, none⟩) (by simp; omega) (.int .i64 (l.lev k).W)).far (p := ⟨t3, 1, none⟩) (by simp; omega) (.int .i64 (l.lev k).H)).far (p := ⟨t3, 2, none⟩) (by simp; omega) (.slice (KA k) (l.sz k) (KC k))))
  have B1' := Lib.hid (show Below wa.heap.size wa (((v2.setCell ⟨t3, 0, none⟩ (.int .i64 (l.lev k).W)).setCell ⟨t3, 1, none⟩ (.int .i64 (l.lev k).H)).setCell ⟨t3, 2, none⟩ (.slice (KA k) (l.sz k) (KC k))) from (Below.setCell (p := ⟨t3, 2, none⟩) (Below.setCell (p := ⟨t3, 1, none⟩) (Below.setCell (p := ⟨t3, 0, none⟩) B1.out hb0 (.int .i64 (l.lev k).W)) hb0 (.int .i64 (l.lev k).H)) hb0 (.slice (KA k) (l.sz k) (KC k))))
  have ZX' := Lib.hid (show HasBlk (((v2.setCell ⟨t3, 0, none⟩ (.int .i64 (l.lev k).W)).setCell ⟨t3, 1, none⟩ (.int .i64 (l.lev k).H)).setCell ⟨t3, 2, none⟩ (.slice (KA k) (l.sz k) (KC k))) t3 74 #[.int .i64 (l.lev k).W, .int .i64 (l.lev k).H, .slice (KA k) (l.sz k) (KC k)] by simpa using ((ZX.out.set 0 (.int .i64 (l.lev k).W)).set 1 (.int .i64 (l.lev k).H)).set 2 (.slice (KA k) (l.sz k) (KC k)))
  have HS' := Lib.hid (show (fun Wo => HasBlk Wo w.heap.size 51 #[.slice (some ⟨gA, oA, none⟩) (K + 1) c] ∧ Below wa.heap.size wa Wo) (((v2.setCell ⟨t3, 0, none⟩ (.int .i64 (l.lev k).W)).setCell ⟨t3, 1, none⟩ (.int .i64 (l.lev k).H)).setCell ⟨t3, 2, none⟩ (.slice (KA k) (l.sz k) (KC k))) from ⟨S1'.out, B1'.out⟩)
  clear S1 S2 B1 HS ZX z0 z1 z2 zf0 zf1 zf2 zz
  refine HK _ _ (fun _ => HS'.out) ?_
  clear HK
  generalize (((v2.setCell ⟨t3, 0, none⟩ (.int .i64 (l.lev k).W)).setCell ⟨t3, 1, none⟩ (.int .i64 (l.lev k).H)).setCell ⟨t3, 2, none⟩ (.slice (KA k) (l.sz k) (KC k))) = v3 at *
  refine wpAnyE_step (i := 9) rfl (by kernel_rfl) (fun KQ HK => ?_)
  go_wp2
  refine HK _ _ (fun _ => HS'.out) ?_
  clear HK HS'
  refine wpAnyE_done (by kernel_rfl) ?_
  have BQ := Lib.hid (B2.out.trans (B1'.out.mono B2.out.size))
  obtain ⟨W, hW⟩ : ∃ W, (l.lev k).W = W := ⟨_, rfl⟩
  obtain ⟨H, hH⟩ : ∃ H, (l.lev k).H = H := ⟨_, rfl⟩
  obtain ⟨V, hV⟩ : ∃ V, (l.lev k).at x y = V := ⟨_, rfl⟩
  have hn1 : 1 ≤ n := by rw [NN.out]; exact two_pos k
  rw [← NN.out] at hx hy
  obtain ⟨X, hX⟩ : ∃ X, x * n = X := ⟨_, rfl⟩
  obtain ⟨XE, hXE⟩ : ∃ XE, (x + 1) * n = XE := ⟨_, rfl⟩
  obtain ⟨Y, hY⟩ : ∃ Y, y * n = Y := ⟨_, rfl⟩
  obtain ⟨YE, hYE⟩ : ∃ YE, (y + 1) * n = YE := ⟨_, rfl⟩
  have hxx : x + 1 ≤ 128 := Nat.le_trans (Nat.le_mul_of_pos_right _ hn1) hx
  have hyy : y + 1 ≤ 128 := Nat.le_trans (Nat.le_mul_of_pos_right _ hn1) hy
  have hX2 : X ≤ XE := by rw [← hX, ← hXE]; exact Nat.mul_le_mul_right _ (by omega)
  have hY2 : Y ≤ YE := by rw [← hY, ← hYE]; exact Nat.mul_le_mul_right _ (by omega)
  have AT := Lib.hid (fun W' (hb : Below v3.heap.size v3 W') => at_any (l.lev k) (KA k) (KC k) x y W' (LD.lev_small h3 h4 k).1 (LD.lev_small h3 h4 k).2 (by omega) (by omega) (((OK.out.below BQ.out).below hb).kd k (show k < K + 1 by omega)))
  have AT' := Lib.hid (show ∀ W', Below v3.heap.size v3 W' → Calls Try.prog 81 #[.agg #[.int .i64 W, .int .i64 H, .slice (KA k) (l.sz k) (KC k)], .int .i64 x, .int .i64 y] W' (fun e w' => e = .returned (.int .i64 V) ∧ Below W'.heap.size W' w') from fun W' hb => by
    have h := AT.out W' hb
    rw [show (l.lev k).W * (l.lev k).H = l.sz k from rfl, hW, hH, hV] at h
    exact h)
  clear AT
  have AT := AT'
  clear AT'
  rw [hXE] at hx
  rw [hYE] at hy
  rw [hW, hH] at ZX'
  have wX : IntKind.i64.wrap ((x : Int) * (n : Int)) = (X : Int) := by rw [← hX, ← Int.natCast_mul]; exact IntWalk.i64_in _ (by omega)
  have wY : IntKind.i64.wrap ((y : Int) * (n : Int)) = (Y : Int) := by rw [← hY, ← Int.natCast_mul]; exact IntWalk.i64_in _ (by omega)
  have wXE : IntKind.i64.wrap (((x : Int) + 1) * (n : Int)) = (XE : Int) := by rw [← hXE, show (x : Int) + 1 = ((x + 1 : Nat) : Int) by omega, ← Int.natCast_mul]; exact IntWalk.i64_in _ (by omega)
  have wYE : IntKind.i64.wrap (((y : Int) + 1) * (n : Int)) = (YE : Int) := by rw [← hYE, show (y : Int) + 1 = ((y + 1 : Nat) : Int) by omega, ← Int.natCast_mul]; exact IntWalk.i64_in _ (by omega)
  have HX := Lib.hid (show x * 2 ^ k = X ∧ (x + 1) * 2 ^ k = XE ∧ y * 2 ^ k = Y ∧ (y + 1) * 2 ^ k = YE by rw [← NN.out]; exact ⟨hX, hXE, hY, hYE⟩)
  have HW := Lib.hid hW
  have HH := Lib.hid hH
  have HV := Lib.hid hV
  clear hW hH hV hX hXE hY hYE
  obtain ⟨K0, hK0⟩ : ∃ K0, KA k = K0 := ⟨_, rfl⟩
  obtain ⟨C0, hC0⟩ : ∃ C0, KC k = C0 := ⟨_, rfl⟩
  obtain ⟨L, hL⟩ : ∃ L, l.sz k = L := ⟨_, rfl⟩
  rw [hK0, hC0, hL] at AT ZX'
  clear hK0 hC0 hL
  have z0 := ZX'.out.cell 0
  have z1 := ZX'.out.cell 1
  have z2 := ZX'.out.cell 2
  have zz := ZX'.out.lt
  have r0 := S2'.out.cell 0
  have r1 := S2'.out.cell 1
  have r2 := S2'.out.cell 2
  have r3 := S2'.out.cell 3
  have rz := S2'.out.lt
  simp at z0 z1 z2 r0 r1 r2 r3
  go_upto_region 2 with fail
  go_cut [15] from 24 to 68 (fun s15 wx => s15 = .bool (decide (W ≤ x ∨ H ≤ y ∨ X1 < (X : Int) ∨ (XE : Int) ≤ X0 ∨ Y1 < (Y : Int) ∨ (YE : Int) ≤ Y0)) ∧ wx = v3)
  case first =>
    by_cases u0 : (W : Int) ≤ (x : Int)
    · have d0 : decide ((W : Int) ≤ (x : Int)) = true := decide_eq_true u0
      have hr := Lib.hid (decide_eq_true (show (W ≤ x ∨ H ≤ y ∨ X1 < (X : Int) ∨ (XE : Int) ≤ X0 ∨ Y1 < (Y : Int) ∨ (YE : Int) ≤ Y0) by omega))
      go_wp2
      go_meet
      exact ⟨by rw [hr.out], rfl⟩
    have d0 : decide ((W : Int) ≤ (x : Int)) = false := decide_eq_false u0
    by_cases u1 : (H : Int) ≤ (y : Int)
    · have d1 : decide ((H : Int) ≤ (y : Int)) = true := decide_eq_true u1
      have hr := Lib.hid (decide_eq_true (show (W ≤ x ∨ H ≤ y ∨ X1 < (X : Int) ∨ (XE : Int) ≤ X0 ∨ Y1 < (Y : Int) ∨ (YE : Int) ≤ Y0) by omega))
      go_wp2
      go_meet
      exact ⟨by rw [hr.out], rfl⟩
    have d1 : decide ((H : Int) ≤ (y : Int)) = false := decide_eq_false u1
    by_cases u2 : X1 < (X : Int)
    · have d2 : decide (X1 < (X : Int)) = true := decide_eq_true u2
      have hr := Lib.hid (decide_eq_true (show (W ≤ x ∨ H ≤ y ∨ X1 < (X : Int) ∨ (XE : Int) ≤ X0 ∨ Y1 < (Y : Int) ∨ (YE : Int) ≤ Y0) by omega))
      go_wp2
      go_meet
      exact ⟨by rw [hr.out], rfl⟩
    have d2 : decide (X1 < (X : Int)) = false := decide_eq_false u2
    by_cases u3 : (XE : Int) ≤ X0
    · have d3 : decide ((XE : Int) ≤ X0) = true := decide_eq_true u3
      have hr := Lib.hid (decide_eq_true (show (W ≤ x ∨ H ≤ y ∨ X1 < (X : Int) ∨ (XE : Int) ≤ X0 ∨ Y1 < (Y : Int) ∨ (YE : Int) ≤ Y0) by omega))
      go_wp2
      go_meet
      exact ⟨by rw [hr.out], rfl⟩
    have d3 : decide ((XE : Int) ≤ X0) = false := decide_eq_false u3
    by_cases u4 : Y1 < (Y : Int)
    · have d4 : decide (Y1 < (Y : Int)) = true := decide_eq_true u4
      have hr := Lib.hid (decide_eq_true (show (W ≤ x ∨ H ≤ y ∨ X1 < (X : Int) ∨ (XE : Int) ≤ X0 ∨ Y1 < (Y : Int) ∨ (YE : Int) ≤ Y0) by omega))
      go_wp2
      go_meet
      exact ⟨by rw [hr.out], rfl⟩
    have d4 : decide (Y1 < (Y : Int)) = false := decide_eq_false u4
    by_cases u5 : (YE : Int) ≤ Y0
    · have d5 : decide ((YE : Int) ≤ Y0) = true := decide_eq_true u5
      have hr := Lib.hid (decide_eq_true (show (W ≤ x ∨ H ≤ y ∨ X1 < (X : Int) ∨ (XE : Int) ≤ X0 ∨ Y1 < (Y : Int) ∨ (YE : Int) ≤ Y0) by omega))
      go_wp2
      go_meet
      exact ⟨by rw [hr.out], rfl⟩
    have d5 : decide ((YE : Int) ≤ Y0) = false := decide_eq_false u5
    have hr := Lib.hid (decide_eq_false (show ¬ (W ≤ x ∨ H ≤ y ∨ X1 < (X : Int) ∨ (XE : Int) ≤ X0 ∨ Y1 < (Y : Int) ∨ (YE : Int) ≤ Y0) by omega))
    go_wp2
    go_meet
    exact ⟨by rw [hr.out], rfl⟩
  case rest =>
    obtain ⟨rfl, hcw⟩ := hcut
    obtain rfl := hcw.symm
    by_cases hout : (W ≤ x ∨ H ≤ y ∨ X1 < (X : Int) ∨ (XE : Int) ≤ X0 ∨ Y1 < (Y : Int) ∨ (YE : Int) ≤ Y0)
    · have ho : decide (W ≤ x ∨ H ≤ y ∨ X1 < (X : Int) ∨ (XE : Int) ≤ X0 ∨ Y1 < (Y : Int) ∨ (YE : Int) ≤ Y0) = true := decide_eq_true hout
      have HO := Lib.hid hout
      clear hout
      rw [ho]
      clear ho
      go_wp2
      go_ret
      exact ⟨⟨b, rfl, LD.low_out (by
        have h := HO.out
        rw [HW.out, HH.out, HX.out.1, HX.out.2.1, HX.out.2.2.1, HX.out.2.2.2]
        dsimp only
        omega)⟩, BQ.out⟩
    have ho : decide (W ≤ x ∨ H ≤ y ∨ X1 < (X : Int) ∨ (XE : Int) ≤ X0 ∨ Y1 < (Y : Int) ∨ (YE : Int) ≤ Y0) = false := decide_eq_false hout
    have HO := Lib.hid hout
    have hxW : x < W := by omega
    have hyH : y < H := by omega
    clear hout
    rw [ho]
    clear ho
    have KX := Lib.hid (AT.out v3 (Below.refl _ _))
    go_wp2_with fail
    refine KX.out.mono ?_
    rintro e v4 ⟨rfl, bel⟩
    clear KX
    have BV := Lib.hid bel
    have hVf := Lib.hid (show (l.lev k).f x y = V by rw [← HV.out, LD.at_in (by rw [HW.out]; exact hxW) (by rw [HH.out]; exact hyH)])
    have S1c := Lib.hid (S1'.out.below bel)
    have S2c := Lib.hid (S2'.out.below bel)
    have BQc := Lib.hid (BQ.out.trans (bel.mono BQ.out.size))
    have ZXc := Lib.hid (ZX'.out.below bel)
    clear S1' S2' BQ bel z0 z1 z2 zz r0 r1 r2 r3 rz ZX'
    have S1' := Lib.hid S1c.out
    have S2' := Lib.hid S2c.out
    have BQ := Lib.hid BQc.out
    have ZX' := Lib.hid ZXc.out
    clear S1c S2c BQc ZXc
    by_cases hb5 : b ≤ V
    · have d5 : decide (b ≤ V) = true := decide_eq_true hb5
      have HB5 := Lib.hid hb5
      clear hb5
      go_wp2
      go_ret
      exact ⟨⟨b, rfl, LD.low_over hle (by rw [HW.out]; exact hxW) (by rw [HH.out]; exact hyH) (by rw [hVf.out]; exact HB5.out)⟩, BQ.out⟩
    have d5 : decide (b ≤ V) = false := decide_eq_false hb5
    have HB5 := Lib.hid (show V < b by omega)
    clear hb5
    have s0 := S1'.out.cell 0
    have sz := S1'.out.lt
    have r0 := S2'.out.cell 0
    have r1 := S2'.out.cell 1
    have r2 := S2'.out.cell 2
    have r3 := S2'.out.cell 3
    have rz := S2'.out.lt
    simp at s0 r0 r1 r2 r3
    have z0 := ZX'.out.cell 0
    have z1 := ZX'.out.cell 1
    have z2 := ZX'.out.cell 2
    have zz := ZX'.out.lt
    simp at z0 z1 z2
    go_upto_region 5 with fail
    clear d5
    go_cut [111] from 78 to 112 (fun s111 wx => s111 = .bool (decide (X0 ≤ (X : Int) ∧ (XE : Int) - 1 ≤ X1 ∧ Y0 ≤ (Y : Int) ∧ (YE : Int) - 1 ≤ Y1)) ∧ wx = v4)
    case first =>
      by_cases u0 : X0 ≤ (X : Int)
      rotate_left
      · have d0 : decide (X0 ≤ (X : Int)) = false := decide_eq_false u0
        have hr := Lib.hid (decide_eq_false (show ¬ (X0 ≤ (X : Int) ∧ (XE : Int) - 1 ≤ X1 ∧ Y0 ≤ (Y : Int) ∧ (YE : Int) - 1 ≤ Y1) by omega))
        go_wp2
        go_meet
        exact ⟨by rw [hr.out], rfl⟩
      have d0 : decide (X0 ≤ (X : Int)) = true := decide_eq_true u0
      by_cases u1 : (XE : Int) - 1 ≤ X1
      rotate_left
      · have d1 : decide ((XE : Int) - 1 ≤ X1) = false := decide_eq_false u1
        have hr := Lib.hid (decide_eq_false (show ¬ (X0 ≤ (X : Int) ∧ (XE : Int) - 1 ≤ X1 ∧ Y0 ≤ (Y : Int) ∧ (YE : Int) - 1 ≤ Y1) by omega))
        go_wp2
        go_meet
        exact ⟨by rw [hr.out], rfl⟩
      have d1 : decide ((XE : Int) - 1 ≤ X1) = true := decide_eq_true u1
      by_cases u2 : Y0 ≤ (Y : Int)
      rotate_left
      · have d2 : decide (Y0 ≤ (Y : Int)) = false := decide_eq_false u2
        have hr := Lib.hid (decide_eq_false (show ¬ (X0 ≤ (X : Int) ∧ (XE : Int) - 1 ≤ X1 ∧ Y0 ≤ (Y : Int) ∧ (YE : Int) - 1 ≤ Y1) by omega))
        go_wp2
        go_meet
        exact ⟨by rw [hr.out], rfl⟩
      have d2 : decide (Y0 ≤ (Y : Int)) = true := decide_eq_true u2
      by_cases u3 : (YE : Int) - 1 ≤ Y1
      rotate_left
      · have d3 : decide ((YE : Int) - 1 ≤ Y1) = false := decide_eq_false u3
        have hr := Lib.hid (decide_eq_false (show ¬ (X0 ≤ (X : Int) ∧ (XE : Int) - 1 ≤ X1 ∧ Y0 ≤ (Y : Int) ∧ (YE : Int) - 1 ≤ Y1) by omega))
        go_wp2
        go_meet
        exact ⟨by rw [hr.out], rfl⟩
      have d3 : decide ((YE : Int) - 1 ≤ Y1) = true := decide_eq_true u3
      have hr := Lib.hid (decide_eq_true (show (X0 ≤ (X : Int) ∧ (XE : Int) - 1 ≤ X1 ∧ Y0 ≤ (Y : Int) ∧ (YE : Int) - 1 ≤ Y1) by omega))
      go_wp2
      go_meet
      exact ⟨by rw [hr.out], rfl⟩
    case rest =>
      obtain ⟨rfl, hcw⟩ := hcut
      obtain rfl := hcw.symm
      by_cases hin : (X0 ≤ (X : Int) ∧ (XE : Int) - 1 ≤ X1 ∧ Y0 ≤ (Y : Int) ∧ (YE : Int) - 1 ≤ Y1)
      · have hi : decide (X0 ≤ (X : Int) ∧ (XE : Int) - 1 ≤ X1 ∧ Y0 ≤ (Y : Int) ∧ (YE : Int) - 1 ≤ Y1) = true := decide_eq_true hin
        have HI := Lib.hid hin
        clear hin
        rw [hi]
        clear hi
        have KX := Lib.hid (AT.out v4 BV.out)
        go_wp2_with fail
        refine KX.out.mono ?_
        rintro e v5 ⟨rfl, bel⟩
        have BQc := Lib.hid (BQ.out.trans (bel.mono BQ.out.size))
        clear KX bel z0 z1 z2 zz
        clear s0 sz r0 r1 r2 r3 rz
        go_wp2
        go_ret
        refine ⟨⟨V, rfl, ?_⟩, BQc.out⟩
        have h := LD.low_in (r := ⟨X0, Y0, X1, Y1⟩) (b := b) hle (show x < (l.lev k).W by rw [HW.out]; exact hxW) (show y < (l.lev k).H by rw [HH.out]; exact hyH) (by rw [hVf.out]; exact HB5.out) (by rw [HX.out.1]; exact HI.out.1) (by rw [HX.out.2.1]; exact HI.out.2.1) (by rw [HX.out.2.2.1]; exact HI.out.2.2.1) (by rw [HX.out.2.2.2]; exact HI.out.2.2.2)
        rw [hVf.out] at h
        exact h
      have hi : decide (X0 ≤ (X : Int) ∧ (XE : Int) - 1 ≤ X1 ∧ Y0 ≤ (Y : Int) ∧ (YE : Int) - 1 ≤ Y1) = false := decide_eq_false hin
      have hkp : 0 < k := by
        rcases Nat.eq_zero_or_pos k with hk0 | h
        · exfalso
          have hz := HX.out
          rw [hk0] at hz
          simp only [Nat.pow_zero, Nat.mul_one] at hz
          have ho := HO.out
          omega
        · exact h
      clear hin
      rw [hi]
      clear hi z0 z1 z2 zz
      clear s0 sz r0 r1 r2 r3 rz
      obtain ⟨k', rfl⟩ : ∃ k', k = k' + 1 := ⟨k - 1, by omega⟩
      have IH := Lib.hid (fun xx yy bb g1 g2 W hb => IH0.out k' rfl xx yy bb g1 g2 W (OK.out.below hb))
      have PW := Lib.hid (show (2 * x + 1 + 1) * 2 ^ k' ≤ 128 ∧ (2 * y + 1 + 1) * 2 ^ k' ≤ 128 by
        have hz := HX.out
        rw [Nat.pow_succ, Nat.mul_comm (2 ^ k') 2, ← Nat.mul_assoc, ← Nat.mul_assoc, ← Nat.mul_assoc, ← Nat.mul_assoc] at hz
        rw [show 2 * x + 1 + 1 = (x + 1) * 2 by omega, show 2 * y + 1 + 1 = (y + 1) * 2 by omega, hz.2.1, hz.2.2.2]
        exact ⟨hx, hy⟩)
      clear wX wY wXE wYE wn AT
      go_wp2
      refine wp_loop_rounds 5 ?_
      rw [rounds_succ]
      have s0 := S1'.out.cell 0
      have sz := S1'.out.lt
      have r0 := S2'.out.cell 0
      have r1 := S2'.out.cell 1
      have r2 := S2'.out.cell 2
      have r3 := S2'.out.cell 3
      have rz := S2'.out.lt
      simp at s0 r0 r1 r2 r3
      have hk := IH.out (2 * x) (2 * y) b (Nat.le_trans (Nat.mul_le_mul_right _ (by omega)) PW.out.1) (Nat.le_trans (Nat.mul_le_mul_right _ (by omega)) PW.out.2) _ BQ.out
      push_cast at hk
      have KX := Lib.hid hk
      clear hk
      go_wp2_with fail
      refine KX.out.mono ?_
      rintro e v5 ⟨⟨m1, rfl, hl⟩, bel⟩
      have Q1 := Lib.hid hl
      clear KX hl
      clear s0 sz r0 r1 r2 r3 rz
      have S1c := Lib.hid (S1'.out.below bel)
      have S2c := Lib.hid (S2'.out.below bel)
      have BQc := Lib.hid (BQ.out.trans (bel.mono BQ.out.size))
      have BVc := Lib.hid (BV.out.trans (bel.mono BV.out.size))
      clear S1' S2' BQ BV bel
      have S1' := Lib.hid S1c.out
      have S2' := Lib.hid S2c.out
      have BQ := Lib.hid BQc.out
      have BV := Lib.hid BVc.out
      clear S1c S2c BQc BVc
      go_wp2
      rw [rounds_succ]
      have s0 := S1'.out.cell 0
      have sz := S1'.out.lt
      have r0 := S2'.out.cell 0
      have r1 := S2'.out.cell 1
      have r2 := S2'.out.cell 2
      have r3 := S2'.out.cell 3
      have rz := S2'.out.lt
      simp at s0 r0 r1 r2 r3
      have hk := IH.out (2 * x + 1) (2 * y) m1 (Nat.le_trans (Nat.mul_le_mul_right _ (by omega)) PW.out.1) (Nat.le_trans (Nat.mul_le_mul_right _ (by omega)) PW.out.2) _ BQ.out
      push_cast at hk
      have KX := Lib.hid hk
      clear hk
      go_wp2_with fail
      refine KX.out.mono ?_
      rintro e v6 ⟨⟨m2, rfl, hl⟩, bel⟩
      have Q2 := Lib.hid hl
      clear KX hl
      clear s0 sz r0 r1 r2 r3 rz
      have S1c := Lib.hid (S1'.out.below bel)
      have S2c := Lib.hid (S2'.out.below bel)
      have BQc := Lib.hid (BQ.out.trans (bel.mono BQ.out.size))
      have BVc := Lib.hid (BV.out.trans (bel.mono BV.out.size))
      clear S1' S2' BQ BV bel
      have S1' := Lib.hid S1c.out
      have S2' := Lib.hid S2c.out
      have BQ := Lib.hid BQc.out
      have BV := Lib.hid BVc.out
      clear S1c S2c BQc BVc
      go_wp2
      rw [rounds_succ]
      have s0 := S1'.out.cell 0
      have sz := S1'.out.lt
      have r0 := S2'.out.cell 0
      have r1 := S2'.out.cell 1
      have r2 := S2'.out.cell 2
      have r3 := S2'.out.cell 3
      have rz := S2'.out.lt
      simp at s0 r0 r1 r2 r3
      have hk := IH.out (2 * x) (2 * y + 1) m2 (Nat.le_trans (Nat.mul_le_mul_right _ (by omega)) PW.out.1) (Nat.le_trans (Nat.mul_le_mul_right _ (by omega)) PW.out.2) _ BQ.out
      push_cast at hk
      have KX := Lib.hid hk
      clear hk
      go_wp2_with fail
      refine KX.out.mono ?_
      rintro e v7 ⟨⟨m3, rfl, hl⟩, bel⟩
      have Q3 := Lib.hid hl
      clear KX hl
      clear s0 sz r0 r1 r2 r3 rz
      have S1c := Lib.hid (S1'.out.below bel)
      have S2c := Lib.hid (S2'.out.below bel)
      have BQc := Lib.hid (BQ.out.trans (bel.mono BQ.out.size))
      have BVc := Lib.hid (BV.out.trans (bel.mono BV.out.size))
      clear S1' S2' BQ BV bel
      have S1' := Lib.hid S1c.out
      have S2' := Lib.hid S2c.out
      have BQ := Lib.hid BQc.out
      have BV := Lib.hid BVc.out
      clear S1c S2c BQc BVc
      go_wp2
      rw [rounds_succ]
      have s0 := S1'.out.cell 0
      have sz := S1'.out.lt
      have r0 := S2'.out.cell 0
      have r1 := S2'.out.cell 1
      have r2 := S2'.out.cell 2
      have r3 := S2'.out.cell 3
      have rz := S2'.out.lt
      simp at s0 r0 r1 r2 r3
      have hk := IH.out (2 * x + 1) (2 * y + 1) m3 (Nat.le_trans (Nat.mul_le_mul_right _ (by omega)) PW.out.1) (Nat.le_trans (Nat.mul_le_mul_right _ (by omega)) PW.out.2) _ BQ.out
      push_cast at hk
      have KX := Lib.hid hk
      clear hk
      go_wp2_with fail
      refine KX.out.mono ?_
      rintro e v8 ⟨⟨m4, rfl, hl⟩, bel⟩
      have Q4 := Lib.hid hl
      clear KX hl
      clear s0 sz r0 r1 r2 r3 rz
      have S1c := Lib.hid (S1'.out.below bel)
      have S2c := Lib.hid (S2'.out.below bel)
      have BQc := Lib.hid (BQ.out.trans (bel.mono BQ.out.size))
      have BVc := Lib.hid (BV.out.trans (bel.mono BV.out.size))
      clear S1' S2' BQ BV bel
      have S1' := Lib.hid S1c.out
      have S2' := Lib.hid S2c.out
      have BQ := Lib.hid BQc.out
      have BV := Lib.hid BVc.out
      clear S1c S2c BQc BVc
      go_wp2
      rw [rounds_succ]
      go_wp2
      go_ret
      exact ⟨⟨m4, rfl, (((Q1.out.or Q2.out).or Q3.out).or Q4.out).congr (fun a b => LD.blk_four)⟩, BQ.out⟩

theorem low_any (l : LD) (K : Nat) (p : PP) (r : RC) (hle : l.Le) (h1 : 1 ≤ l.W) (h2 : 1 ≤ l.H) (h3 : l.W ≤ 64) (h4 : l.H ≤ 64) (hK : K ≤ 6) : ∀ k' : Nat, k' ≤ K → ∀ (x y : Nat) (b : Int), (x + 1) * 2 ^ k' ≤ 128 → (y + 1) * 2 ^ k' ≤ 128 → ∀ w, POk w p (l.pd K) → Calls Try.prog 69 #[.agg #[.slice p.A (K + 1) p.c], .int .i64 k', .int .i64 x, .int .i64 y, .agg #[.int .i64 r.X0, .int .i64 r.Y0, .int .i64 r.X1, .int .i64 r.Y1], .int .i64 b] w fun e w' => (∃ m, e = .returned (.int .i64 m) ∧ LstB (l.blk r k' x y) l.f b m) ∧ Below w.heap.size w w' := by
  intro k
  induction k with
  | zero => intro hk; exact low_step l K p r hle h1 h2 h3 h4 hK 0 hk (fun k' h => by omega)
  | succ k ih =>
    intro hk
    refine low_step l K p r hle h1 h2 h3 h4 hK (k + 1) hk (fun k' h => ?_)
    obtain rfl : k = k' := by omega
    exact ih (by omega)
end Go.Proofs.Ytibeoeooajelgaa
