/- pyramid: Build, the program's and the reference's. -/
import Derived.Test.YtibeoeooajelgaaY13
namespace Go.Proofs.Ytibeoeooajelgaa
open Go.RowKit
set_option linter.unusedVariables false
/-- A frame's first level. -/
def FD.ld (f : FD) : LD := ⟨f.W.toNat, f.H.toNat, fun x y => f.D (y * f.W.toNat + x)⟩
/-- A pyramid of the call's own: its list, and its levels' lists. -/
structure POwn (B : Nat) (w : World) (p : PP) (d : PD) : Prop where
  ls : w.ownsRow B 74 3 (.slice p.A d.n p.c) d.n (cellsR 3 (pvc p d) d.n)
  kd : ∀ i, i < d.n → w.ownsRow B 3 1 (.slice (p.KA i) (d.L i) (p.KC i)) (d.L i) (cellsR 1 (fun k _ => .int .i64 (d.f i k)) (d.L i))
theorem POwn.ok {B : Nat} {w : World} {p : PP} {d : PD} (h : POwn B w p d) : POk w p d := ⟨Row.of_cells h.ls, fun i hi => Row.of_cells (h.kd i hi)⟩
theorem POwn.below {B : Nat} {w w' : World} {p : PP} {d : PD} (h : POwn B w p d) (hb : Below w.heap.size w w') : POwn B w' p d := ⟨own_below h.ls hb, fun i hi => own_below (h.kd i hi) hb⟩
theorem POwn.base {B b : Nat} {w : World} {p : PP} {d : PD} (h : POwn B w p d) (hb : b ≤ B) : POwn b w p d := ⟨own_base h.ls hb, fun i hi => own_base (h.kd i hi) hb⟩
/-- What Build answers. -/
def BldR (f : FD) (B : Nat) (e : Ending) (w' : World) : Prop :=
  (¬ f.May ∧ e = .returned (.tuple #[.agg #[.slice none 0 0], .int .i64 8])) ∨
  (f.May ∧ ∃ k p, f.ld.Top k ∧ e = .returned (.tuple #[.agg #[.slice p.A (k + 1) p.c], .int .i64 0]) ∧ POwn B w' p (f.ld.pd k))
theorem bld_lv (X Y n c : Nat) (A : Option Addr) (w : World) : (Instr.build 74 #[(0, .int .i64 X), (1, .int .i64 Y), (2, .slice A n c)]).run Try.prog w = .ok (.agg #[.int .i64 X, .int .i64 Y, .slice A n c]) w :=
  run_build w 74 _ #[.int .i64 X, .int .i64 Y, .slice A n c] (by kernel_rfl)
theorem bld_py (w : World) : (Instr.build 51 #[]).run Try.prog w = .ok (.agg #[.slice none 0 0]) w :=
  run_build w 51 _ #[.slice none 0 0] (by kernel_rfl)
theorem pown_of {l : LD} {A : Option Addr} {c B k pc : Nat} {P : Option Addr} {KA : Nat → Option Addr} {KC : Nat → Nat} {w : World} (hl : LvI l A c B w KA KC k) (ho : w.ownsRow B 74 3 (.slice P (k + 1) pc) (k + 1) (cellsR 3 (lvc l KA KC) (k + 1))) (h0 : w.ownsRow B 3 1 (.slice A (l.W * l.H) c) (l.W * l.H) (cellsR 1 (lrow l) (l.W * l.H))) : POwn B w ⟨P, pc, KA, KC⟩ (l.pd k) :=
  ⟨ho, fun i hi => by
    have hi : i < k + 1 := hi
    rcases Nat.eq_zero_or_pos i with rfl | h
    · show w.ownsRow B 3 1 (.slice (KA 0) _ (KC 0)) _ _
      rw [hl.A0, hl.C0]
      exact h0
    · exact hl.own i h (by omega)⟩
theorem row_plain {X Y : Nat} {D : Nat → Int} (t : Nat) : LD.row ⟨X, Y, fun x y => D (y * X + x)⟩ t = D t := by
  unfold LD.row
  dsimp only
  rw [Nat.mul_comm, Nat.div_add_mod]
theorem FD.May.nums {f : FD} (h : f.May) : ∃ X Y : Nat, f.W = X ∧ f.H = Y ∧ (1 ≤ X ∧ X ≤ 64 ∧ 1 ≤ Y ∧ Y ≤ 64) ∧ f.nd = X * Y ∧ f.nc = f.nd ∧ f.ni = f.nd ∧ f.nt = f.nd ∧ f.ld = ⟨X, Y, fun x y => f.D (y * X + x)⟩ ∧ (∀ k, k < X * Y → -2048 ≤ f.D k ∧ f.D k ≤ 66560) := by
  obtain ⟨⟨h1, h2, h3, h4⟩, ⟨c1, c2, c3, c4⟩, hp⟩ := h
  obtain ⟨X, hX⟩ := Int.eq_ofNat_of_zero_le (show 0 ≤ f.W by omega)
  obtain ⟨Y, hY⟩ := Int.eq_ofNat_of_zero_le (show 0 ≤ f.H by omega)
  have hz : f.nd = X * Y := by
    rw [hX, hY, ← Int.natCast_mul] at c2
    exact Int.ofNat.inj c2
  refine ⟨X, Y, hX, hY, ⟨by omega, by omega, by omega, by omega⟩, hz, by omega, by omega, by omega, ?_, fun k hk => ?_⟩
  · unfold FD.ld
    rw [hX, hY]
    rfl
  · rcases hp k (by omega) with q | q
    · omega
    · have := q.1
      omega
theorem POwn.pset {B g t j : Nat} {w : World} {p : PP} {d : PD} {cs : Array Value} (h : POwn B w p d) (hb : HasBlk w g t cs) (h1 : 74 ≠ t) (h2 : 3 ≠ t) (u : Value) : POwn B (w.setCell ⟨g, j, none⟩ u) p d := ⟨own_pset h.ls hb h1 u, fun i hi => own_pset (h.kd i hi) hb h2 u⟩

set_option maxRecDepth 100000 in
set_option maxHeartbeats 16000000 in
theorem pbuild_any (p : FP) (f : FD) (w : World) (hok : FOk w p f) :
    Calls Try.prog 32 #[.agg #[.int .i64 f.W, .int .i64 f.H, .slice p.ac f.nc p.kc, .slice p.ad f.nd p.kd, .slice p.ai f.ni p.ki, .slice p.a4 f.nt p.kt]] w fun e w' => BldR f w.heap.size e w' ∧ Below w.heap.size w w' := by
  obtain ⟨W, H, nc, nd, ni, nt, C, D, I, TT⟩ := f
  obtain ⟨ac, ad, ai, a4, kc, kd, ki, kt⟩ := p
  dsimp only
  have B0 := Lib.hid (((Below.refl w.heap.size w).alloc (Nat.le_refl _) (.cells #[.int .i64 W, .int .i64 H, .slice ac nc kc, .slice ad nd kd, .slice ai ni ki, .slice a4 nt kt] 29)).alloc (by simp) (.cells #[.slice none 0 0] 51))
  have P1 := Lib.hid ((hasBlk_new w 29 #[.int .i64 W, .int .i64 H, .slice ac nc kc, .slice ad nd kd, .slice ai ni ki, .slice a4 nt kt]).alloc (.cells #[.slice none 0 0] 51))
  have P2 := Lib.hid (show HasBlk ((w.alloc (.cells #[.int .i64 W, .int .i64 H, .slice ac nc kc, .slice ad nd kd, .slice ai ni ki, .slice a4 nt kt] 29)).alloc (.cells #[.slice none 0 0] 51)) (w.heap.size + 1) 51 #[.slice none 0 0] by simpa using hasBlk_new (w.alloc (.cells #[.int .i64 W, .int .i64 H, .slice ac nc kc, .slice ad nd kd, .slice ai ni ki, .slice a4 nt kt] 29)) 51 #[.slice none 0 0])
  have KX := Lib.hid (check_any ⟨ac, ad, ai, a4, kc, kd, ki, kt⟩ ⟨W, H, nc, nd, ni, nt, C, D, I, TT⟩ _ (hok.below B0.out))
  have RD := Lib.hid (show IS w ad nd D from hok.2.1)
  clear hok
  go_enter Try.func32, Try.ntmps32
  go_wp2_with fail
  refine KX.out.mono ?_
  clear KX
  rintro e w1 ⟨⟨x, rfl, hx⟩, bel⟩
  have B2 := Lib.hid (B0.out.trans (bel.mono B0.out.size))
  have S1 := Lib.hid (P1.out.below bel)
  have S2 := Lib.hid (P2.out.below bel)
  clear B0 P1 P2 bel
  rcases hx with ⟨hm, rfl⟩ | ⟨hm, rfl⟩
  rotate_left
  · have NM := Lib.hid hm
    clear hm
    have zb := S2.out.cell 0
    have zf := S2.out.frozen 0
    have zl := S2.out.lt
    simp at zb
    have hb9 := bld_py
    go_wp2
    refine bodyPost_ret (v := .tuple #[.agg #[.slice none 0 0], .int .i64 8]) (by simp [results, Try.results32, go_sem, *]) rfl ⟨.inl ⟨NM.out, rfl⟩, ?_⟩
    exact Below.setCell B2.out (by simp) _
  have HM := Lib.hid hm
  obtain ⟨X, Y, rfl, rfl, ⟨hx1, hx2, hy1, hy2⟩, hz, -, -, -, hq, hD⟩ := hm.nums
  have HD := Lib.hid hD
  have EQ0 := Lib.hid hq
  clear hm hq hD
  have hn4 : nd ≤ 4096 := by
    have : X * Y ≤ 64 * 64 := Nat.mul_le_mul hx2 hy2
    dsimp only at hz
    omega
  dsimp only at hz EQ0 HD
  have ZZ := Lib.hid hz
  clear hz
  go_upto_region 4 with fail
  refine wp_region_E (fun Wo => HasBlk Wo w.heap.size 29 #[.int .i64 X, .int .i64 Y, .slice ac nc kc, .slice ad nd kd, .slice ai ni ki, .slice a4 nt kt] ∧ HasBlk Wo w.heap.size 29 #[.int .i64 X, .int .i64 Y, .slice ac nc kc, .slice ad nd kd, .slice ai ni ki, .slice a4 nt kt]) 99 (by kernel_rfl) ?_
  have bd := (Below.refl w1.heap.size w1).drew
  have HS := Lib.hid (show (fun Wo => HasBlk Wo w.heap.size 29 #[.int .i64 X, .int .i64 Y, .slice ac nc kc, .slice ad nd kd, .slice ai ni ki, .slice a4 nt kt] ∧ HasBlk Wo w.heap.size 29 #[.int .i64 X, .int .i64 Y, .slice ac nc kc, .slice ad nd kd, .slice ai ni ki, .slice a4 nt kt]) w1 from ⟨S1.out, S1.out⟩)
  have B2' := Lib.hid (B2.out.trans (bd.mono B2.out.size))
  have S1' := Lib.hid (S1.out.below bd)
  have S2' := Lib.hid (S2.out.below bd)
  clear B2 S1 S2 HS
  have B2 := Lib.hid B2'.out
  have S1 := Lib.hid S1'.out
  have S2 := Lib.hid S2'.out
  clear B2' S1' S2'
  have HS := Lib.hid (show (fun Wo => HasBlk Wo w.heap.size 29 #[.int .i64 X, .int .i64 Y, .slice ac nc kc, .slice ad nd kd, .slice ai ni ki, .slice a4 nt kt] ∧ HasBlk Wo w.heap.size 29 #[.int .i64 X, .int .i64 Y, .slice ac nc kc, .slice ad nd kd, .slice ai ni ki, .slice a4 nt kt]) w1.drew from ⟨S1.out, S1.out⟩)
  clear bd
  generalize gwd : w1.drew = v1 at *
  clear gwd
  refine wpAnyE_takeA (i := 0) (v := .pointer (some ⟨w.heap.size, 0, none⟩)) rfl (by kernel_rfl) (fun _ _ _ h => h) (.inl ⟨by first | kernel_rfl | rfl, fun W hW => ?_⟩) HS.out ?_
  · obtain ⟨hWP, hWA⟩ := hW
    have q0 := hWP.cell 0
    have q1 := hWP.cell 1
    have q3 := hWP.cell 3
    have qz := hWP.lt
    simp at q0 q1 q3
    go_simp
  simp only [Act.put, List.setIfInBounds_toArray]
  refine wpAnyE_takeA (i := 1) (v := .int .i64 X) rfl (by kernel_rfl) (fun _ _ _ h => h) (.inl ⟨by first | kernel_rfl | rfl, fun W hW => ?_⟩) HS.out ?_
  · obtain ⟨hWP, hWA⟩ := hW
    have q0 := hWP.cell 0
    have q1 := hWP.cell 1
    have q3 := hWP.cell 3
    have qz := hWP.lt
    simp at q0 q1 q3
    go_simp
  simp only [Act.put]
  refine wpAnyE_takeA (i := 2) (v := .pointer (some ⟨w.heap.size, 1, none⟩)) rfl (by kernel_rfl) (fun _ _ _ h => h) (.inl ⟨by first | kernel_rfl | rfl, fun W hW => ?_⟩) HS.out ?_
  · obtain ⟨hWP, hWA⟩ := hW
    have q0 := hWP.cell 0
    have q1 := hWP.cell 1
    have q3 := hWP.cell 3
    have qz := hWP.lt
    simp at q0 q1 q3
    go_simp
  simp only [Act.put]
  refine wpAnyE_takeA (i := 3) (v := .int .i64 Y) rfl (by kernel_rfl) (fun _ _ _ h => h) (.inl ⟨by first | kernel_rfl | rfl, fun W hW => ?_⟩) HS.out ?_
  · obtain ⟨hWP, hWA⟩ := hW
    have q0 := hWP.cell 0
    have q1 := hWP.cell 1
    have q3 := hWP.cell 3
    have qz := hWP.lt
    simp at q0 q1 q3
    go_simp
  simp only [Act.put]
  refine wpAnyE_takeA (i := 4) (v := .pointer (some ⟨w.heap.size, 3, none⟩)) rfl (by kernel_rfl) (fun _ _ _ h => h) (.inl ⟨by first | kernel_rfl | rfl, fun W hW => ?_⟩) HS.out ?_
  · obtain ⟨hWP, hWA⟩ := hW
    have q0 := hWP.cell 0
    have q1 := hWP.cell 1
    have q3 := hWP.cell 3
    have qz := hWP.lt
    simp at q0 q1 q3
    go_simp
  simp only [Act.put]
  refine wpAnyE_takeA (i := 5) (v := .slice ad nd kd) rfl (by kernel_rfl) (fun _ _ _ h => h) (.inl ⟨by first | kernel_rfl | rfl, fun W hW => ?_⟩) HS.out ?_
  · obtain ⟨hWP, hWA⟩ := hW
    have q0 := hWP.cell 0
    have q1 := hWP.cell 1
    have q3 := hWP.cell 3
    have qz := hWP.lt
    simp at q0 q1 q3
    go_simp
  simp only [Act.put]
  refine wpAnyE_step (i := 6) rfl (by kernel_rfl) (fun KQ HK => ?_)
  have KX := Lib.hid (cloneInt ad nd kd (fun i _ => .int .i64 (D i)) v1 (RD.out.row.below B2.out) (fun _ _ => rfl) (by omega))
  go_wp2_with fail
  refine KX.out.mono ?_
  rintro e v2 ⟨⟨A1, c1, rfl, hown⟩, bel⟩
  have OA := Lib.hid (own_base hown B2.out.size)
  clear KX hown
  have B2' := Lib.hid (B2.out.trans (bel.mono B2.out.size))
  have S1' := Lib.hid (S1.out.below bel)
  have S2' := Lib.hid (S2.out.below bel)
  clear B2 S1 S2 HS
  have B2 := Lib.hid B2'.out
  have S1 := Lib.hid S1'.out
  have S2 := Lib.hid S2'.out
  clear B2' S1' S2'
  have HS := Lib.hid (show (fun Wo => HasBlk Wo w.heap.size 29 #[.int .i64 X, .int .i64 Y, .slice ac nc kc, .slice ad nd kd, .slice ai ni ki, .slice a4 nt kt] ∧ HasBlk Wo w.heap.size 29 #[.int .i64 X, .int .i64 Y, .slice ac nc kc, .slice ad nd kd, .slice ai ni ki, .slice a4 nt kt]) v2 from ⟨S1.out, S1.out⟩)
  clear bel
  go_wp2
  refine HK _ _ (fun _ => HS.out) ?_
  clear HK
  have hb9 := bld_lv
  refine wpAnyE_step (i := 7) rfl (by kernel_rfl) (fun KQ HK => ?_)
  go_wp2
  refine HK _ _ (fun _ => HS.out) ?_
  clear HK hb9
  have hk := build_any (⟨X, Y, fun x y => D (y * X + x)⟩ : LD) A1 c1 v2 hx1 hy1 hx2 hy2 (by
    have h := Row.of_cells OA.out
    rw [ZZ.out] at h
    exact h.congr fun i hi j hj => by
      show _ = Value.int .i64 (LD.row _ i)
      rw [row_plain])
  dsimp only at hk
  rw [← ZZ.out] at hk
  have KX := Lib.hid hk
  clear hk
  refine wpAnyE_step (i := 8) rfl (by kernel_rfl) (fun KQ HK => ?_)
  go_wp2_with fail
  refine KX.out.mono ?_
  rintro e v3 ⟨⟨k, pc, P, KA', KC', htop, rfl, hlv, hown⟩, bel⟩
  clear KX
  have TOP := Lib.hid htop
  have OB := Lib.hid (own_below OA.out bel)
  have OB' := Lib.hid (show v3.ownsRow w.heap.size 3 1 (.slice A1 (X * Y) c1) (X * Y) (cellsR 1 (lrow (⟨X, Y, fun x y => D (y * X + x)⟩ : LD)) (X * Y)) by
    have h := OB.out
    rw [ZZ.out] at h
    rw [cellsR_congr (G := fun i _ => Value.int .i64 (D i)) (fun i hi j hj => by unfold lrow; rw [row_plain])]
    exact h)
  have PO := Lib.hid (pown_of (B := w.heap.size) ⟨hlv.A0, hlv.C0, hlv.k6, hlv.no, fun i h1 h2 => own_base (hlv.own i h1 h2) B2.out.size⟩ (own_base hown B2.out.size) OB'.out)
  clear OB OB' OA
  clear htop hlv hown
  have B2' := Lib.hid (B2.out.trans (bel.mono B2.out.size))
  have S1' := Lib.hid (S1.out.below bel)
  have S2' := Lib.hid (S2.out.below bel)
  clear B2 S1 S2 HS
  have B2 := Lib.hid B2'.out
  have S1 := Lib.hid S1'.out
  have S2 := Lib.hid S2'.out
  clear B2' S1' S2'
  have HS := Lib.hid (show (fun Wo => HasBlk Wo w.heap.size 29 #[.int .i64 X, .int .i64 Y, .slice ac nc kc, .slice ad nd kd, .slice ai ni ki, .slice a4 nt kt] ∧ HasBlk Wo w.heap.size 29 #[.int .i64 X, .int .i64 Y, .slice ac nc kc, .slice ad nd kd, .slice ai ni ki, .slice a4 nt kt]) v3 from ⟨S1.out, S1.out⟩)
  clear bel
  go_wp2
  refine HK _ _ (fun _ => HS.out) ?_
  clear HK
  have zb := S2.out.cell 0
  have zf := S2.out.frozen 0
  have zl := S2.out.lt
  simp at zb
  refine wpAnyE_step (i := 9) rfl (by kernel_rfl) (fun KQ HK => ?_)
  go_wp2
  have S2n := Lib.hid (show HasBlk (v3.setCell ⟨(w.heap.size + 1), 0, none⟩ (.slice P (k + 1) pc)) (w.heap.size + 1) 51 #[.slice P (k + 1) pc] by simpa using S2.out.set 0 (.slice P (k + 1) pc))
  have B2n := Lib.hid (show Below w.heap.size w (v3.setCell ⟨(w.heap.size + 1), 0, none⟩ (.slice P (k + 1) pc)) from Below.setCell B2.out (by simp) _)
  have S1n := Lib.hid (S1.out.far (p := ⟨(w.heap.size + 1), 0, none⟩) (by simp) (.slice P (k + 1) pc))
  have POn := Lib.hid (PO.out.pset (j := 0) S2.out (by decide) (by decide) (.slice P (k + 1) pc))
  have HSn := Lib.hid (show (fun Wo => HasBlk Wo w.heap.size 29 #[.int .i64 X, .int .i64 Y, .slice ac nc kc, .slice ad nd kd, .slice ai ni ki, .slice a4 nt kt] ∧ HasBlk Wo w.heap.size 29 #[.int .i64 X, .int .i64 Y, .slice ac nc kc, .slice ad nd kd, .slice ai ni ki, .slice a4 nt kt]) (v3.setCell ⟨(w.heap.size + 1), 0, none⟩ (.slice P (k + 1) pc)) from ⟨S1n.out, S1n.out⟩)
  clear zb zf zl HS S1 S2 B2 PO
  refine HK _ _ (fun _ => HSn.out) ?_
  clear HK
  generalize v3.setCell ⟨(w.heap.size + 1), 0, none⟩ (.slice P (k + 1) pc) = v4 at *
  refine wpAnyE_step (i := 10) rfl (by kernel_rfl) (fun KQ HK => ?_)
  go_wp2
  refine HK _ _ (fun _ => HSn.out) ?_
  clear HK
  refine wpAnyE_done (by kernel_rfl) ?_
  have zb := S2n.out.cell 0
  have zl := S2n.out.lt
  simp at zb
  go_wp2
  refine bodyPost_ret (v := .tuple #[.agg #[.slice P (k + 1) pc], .int .i64 0]) (by simp [results, Try.results32, go_sem, *]) rfl ⟨.inr ⟨HM.out, k, ⟨P, pc, KA', KC'⟩, ?_, rfl, ?_⟩, B2n.out⟩
  · rw [EQ0.out]
    exact TOP.out
  · rw [EQ0.out]
    exact POn.out

set_option maxRecDepth 100000 in
set_option maxHeartbeats 16000000 in
theorem refbuildp_any (p : FP) (f : FD) (w : World) (hok : FOk w p f) :
    Calls Try.prog 33 #[.agg #[.int .i64 f.W, .int .i64 f.H, .slice p.ac f.nc p.kc, .slice p.ad f.nd p.kd, .slice p.ai f.ni p.ki, .slice p.a4 f.nt p.kt]] w fun e w' => BldR f w.heap.size e w' ∧ Below w.heap.size w w' := by
  obtain ⟨W, H, nc, nd, ni, nt, C, D, I, TT⟩ := f
  obtain ⟨ac, ad, ai, a4, kc, kd, ki, kt⟩ := p
  dsimp only
  obtain ⟨i0, hi0, hz0, hz1, hz2⟩ := info_parts int_info
  have B0 := Lib.hid (((Below.refl w.heap.size w).alloc (Nat.le_refl _) (.cells #[.int .i64 W, .int .i64 H, .slice ac nc kc, .slice ad nd kd, .slice ai ni ki, .slice a4 nt kt] 29)).alloc (by simp) (.cells #[.slice none 0 0] 51))
  have P1 := Lib.hid ((hasBlk_new w 29 #[.int .i64 W, .int .i64 H, .slice ac nc kc, .slice ad nd kd, .slice ai ni ki, .slice a4 nt kt]).alloc (.cells #[.slice none 0 0] 51))
  have P2 := Lib.hid (show HasBlk ((w.alloc (.cells #[.int .i64 W, .int .i64 H, .slice ac nc kc, .slice ad nd kd, .slice ai ni ki, .slice a4 nt kt] 29)).alloc (.cells #[.slice none 0 0] 51)) (w.heap.size + 1) 51 #[.slice none 0 0] by simpa using hasBlk_new (w.alloc (.cells #[.int .i64 W, .int .i64 H, .slice ac nc kc, .slice ad nd kd, .slice ai ni ki, .slice a4 nt kt] 29)) 51 #[.slice none 0 0])
  have KX := Lib.hid (refmay_any ⟨ac, ad, ai, a4, kc, kd, ki, kt⟩ ⟨W, H, nc, nd, ni, nt, C, D, I, TT⟩ _ (hok.below B0.out))
  have RD := Lib.hid (show IS w ad nd D from hok.2.1)
  clear hok
  go_enter Try.func33, Try.ntmps33
  go_wp2_with fail
  refine KX.out.mono ?_
  clear KX
  rintro e w1 ⟨⟨b, rfl, hb⟩, bel⟩
  have B2 := Lib.hid (B0.out.trans (bel.mono B0.out.size))
  have S1 := Lib.hid (P1.out.below bel)
  have S2 := Lib.hid (P2.out.below bel)
  clear B0 P1 P2 bel
  cases b
  · have hm := fun h => hb.2 h
    clear hb
    have NM := Lib.hid (show ¬ FD.May _ from fun h => by cases hm h)
    clear hm
    have zb := S2.out.cell 0
    have zf := S2.out.frozen 0
    have zl := S2.out.lt
    simp at zb
    have hb9 := bld_py
    go_wp2
    refine bodyPost_ret (v := .tuple #[.agg #[.slice none 0 0], .int .i64 8]) (by simp [results, Try.results33, go_sem, *]) rfl ⟨.inl ⟨NM.out, rfl⟩, ?_⟩
    exact Below.setCell B2.out (by simp) _
  have hm := hb.1 rfl
  clear hb
  have HM := Lib.hid hm
  obtain ⟨X, Y, rfl, rfl, ⟨hx1, hx2, hy1, hy2⟩, hz, -, -, -, hq, hD⟩ := hm.nums
  have HD := Lib.hid hD
  have EQ0 := Lib.hid hq
  clear hm hq hD
  have hn4 : nd ≤ 4096 := by
    have : X * Y ≤ 64 * 64 := Nat.mul_le_mul hx2 hy2
    dsimp only at hz
    omega
  dsimp only at hz EQ0 HD
  have ZZ := Lib.hid hz
  clear hz
  go_upto_region 3 with fail
  refine wp_region_E (fun Wo => HasBlk Wo w.heap.size 29 #[.int .i64 X, .int .i64 Y, .slice ac nc kc, .slice ad nd kd, .slice ai ni ki, .slice a4 nt kt] ∧ HasBlk Wo w.heap.size 29 #[.int .i64 X, .int .i64 Y, .slice ac nc kc, .slice ad nd kd, .slice ai ni ki, .slice a4 nt kt]) 99 (by kernel_rfl) ?_
  have bd := (Below.refl w1.heap.size w1).drew
  have HS := Lib.hid (show (fun Wo => HasBlk Wo w.heap.size 29 #[.int .i64 X, .int .i64 Y, .slice ac nc kc, .slice ad nd kd, .slice ai ni ki, .slice a4 nt kt] ∧ HasBlk Wo w.heap.size 29 #[.int .i64 X, .int .i64 Y, .slice ac nc kc, .slice ad nd kd, .slice ai ni ki, .slice a4 nt kt]) w1 from ⟨S1.out, S1.out⟩)
  have B2' := Lib.hid (B2.out.trans (bd.mono B2.out.size))
  have S1' := Lib.hid (S1.out.below bd)
  have S2' := Lib.hid (S2.out.below bd)
  clear B2 S1 S2 HS
  have B2 := Lib.hid B2'.out
  have S1 := Lib.hid S1'.out
  have S2 := Lib.hid S2'.out
  clear B2' S1' S2'
  have HS := Lib.hid (show (fun Wo => HasBlk Wo w.heap.size 29 #[.int .i64 X, .int .i64 Y, .slice ac nc kc, .slice ad nd kd, .slice ai ni ki, .slice a4 nt kt] ∧ HasBlk Wo w.heap.size 29 #[.int .i64 X, .int .i64 Y, .slice ac nc kc, .slice ad nd kd, .slice ai ni ki, .slice a4 nt kt]) w1.drew from ⟨S1.out, S1.out⟩)
  clear bd
  generalize gwd : w1.drew = v1 at *
  clear gwd
  refine wpAnyE_takeA (i := 0) (v := .pointer (some ⟨w.heap.size, 0, none⟩)) rfl (by kernel_rfl) (fun _ _ _ h => h) (.inl ⟨by first | kernel_rfl | rfl, fun W hW => ?_⟩) HS.out ?_
  · obtain ⟨hWP, hWA⟩ := hW
    have q0 := hWP.cell 0
    have q1 := hWP.cell 1
    have q3 := hWP.cell 3
    have qz := hWP.lt
    simp at q0 q1 q3
    go_simp
  simp only [Act.put, List.setIfInBounds_toArray]
  refine wpAnyE_takeA (i := 1) (v := .int .i64 X) rfl (by kernel_rfl) (fun _ _ _ h => h) (.inl ⟨by first | kernel_rfl | rfl, fun W hW => ?_⟩) HS.out ?_
  · obtain ⟨hWP, hWA⟩ := hW
    have q0 := hWP.cell 0
    have q1 := hWP.cell 1
    have q3 := hWP.cell 3
    have qz := hWP.lt
    simp at q0 q1 q3
    go_simp
  simp only [Act.put]
  refine wpAnyE_takeA (i := 2) (v := .pointer (some ⟨w.heap.size, 1, none⟩)) rfl (by kernel_rfl) (fun _ _ _ h => h) (.inl ⟨by first | kernel_rfl | rfl, fun W hW => ?_⟩) HS.out ?_
  · obtain ⟨hWP, hWA⟩ := hW
    have q0 := hWP.cell 0
    have q1 := hWP.cell 1
    have q3 := hWP.cell 3
    have qz := hWP.lt
    simp at q0 q1 q3
    go_simp
  simp only [Act.put]
  refine wpAnyE_takeA (i := 3) (v := .int .i64 Y) rfl (by kernel_rfl) (fun _ _ _ h => h) (.inl ⟨by first | kernel_rfl | rfl, fun W hW => ?_⟩) HS.out ?_
  · obtain ⟨hWP, hWA⟩ := hW
    have q0 := hWP.cell 0
    have q1 := hWP.cell 1
    have q3 := hWP.cell 3
    have qz := hWP.lt
    simp at q0 q1 q3
    go_simp
  simp only [Act.put]
  refine wpAnyE_takeA (i := 4) (v := .pointer (some ⟨w.heap.size, 3, none⟩)) rfl (by kernel_rfl) (fun _ _ _ h => h) (.inl ⟨by first | kernel_rfl | rfl, fun W hW => ?_⟩) HS.out ?_
  · obtain ⟨hWP, hWA⟩ := hW
    have q0 := hWP.cell 0
    have q1 := hWP.cell 1
    have q3 := hWP.cell 3
    have qz := hWP.lt
    simp at q0 q1 q3
    go_simp
  simp only [Act.put]
  refine wpAnyE_takeA (i := 5) (v := .slice ad nd kd) rfl (by kernel_rfl) (fun _ _ _ h => h) (.inl ⟨by first | kernel_rfl | rfl, fun W hW => ?_⟩) HS.out ?_
  · obtain ⟨hWP, hWA⟩ := hW
    have q0 := hWP.cell 0
    have q1 := hWP.cell 1
    have q3 := hWP.cell 3
    have qz := hWP.lt
    simp at q0 q1 q3
    go_simp
  simp only [Act.put]
  refine wpAnyE_step (i := 6) rfl (by kernel_rfl) (fun KQ HK => ?_)
  have hnews := (RD.out.row.below B2.out).news (by omega)
  have hb0 := B2.out.size
  refine wpList_app rfl (.const (.slice none 0 0)) (.tmp 13) 27 rfl v1.heap.size 3 i0 _ 1 8 Try.underlying27 hi0 hz0 hz1 hz2 rfl (by omega) none 0 0 [] rfl (own_nil _ _ 3 1) ad nd kd (cellsR 1 (fun i _ => .int .i64 (D i)) nd) rfl (cellsR_len 1 _ nd) hnews (cellsR_one (fun _ _ => rfl) nd) (by unfold maxLen; omega) (by omega) (Nat.le_refl _) ?_
  intro A1 c1 v2 hown hgr
  simp only [Nat.zero_add, List.nil_append] at hown ⊢
  have bel : Below v1.heap.size v1 v2 := below_grown (v := .slice none 0 0) (base := v1.heap.size) (Below.refl _ _) hgr (own_nil _ _ 3 1) (Nat.le_refl _) (by simp)
  have OA := Lib.hid (own_base hown hb0)
  clear hown hgr hnews hb0
  have B2' := Lib.hid (B2.out.trans (bel.mono B2.out.size))
  have S1' := Lib.hid (S1.out.below bel)
  have S2' := Lib.hid (S2.out.below bel)
  clear B2 S1 S2 HS
  have B2 := Lib.hid B2'.out
  have S1 := Lib.hid S1'.out
  have S2 := Lib.hid S2'.out
  clear B2' S1' S2'
  have HS := Lib.hid (show (fun Wo => HasBlk Wo w.heap.size 29 #[.int .i64 X, .int .i64 Y, .slice ac nc kc, .slice ad nd kd, .slice ai ni ki, .slice a4 nt kt] ∧ HasBlk Wo w.heap.size 29 #[.int .i64 X, .int .i64 Y, .slice ac nc kc, .slice ad nd kd, .slice ai ni ki, .slice a4 nt kt]) v2 from ⟨S1.out, S1.out⟩)
  clear bel
  go_wp2
  refine HK _ _ (fun _ => HS.out) ?_
  clear HK
  have hb9 := bld_lv
  refine wpAnyE_step (i := 7) rfl (by kernel_rfl) (fun KQ HK => ?_)
  go_wp2
  refine HK _ _ (fun _ => HS.out) ?_
  clear HK hb9
  have hk := refbuilt_any (⟨X, Y, fun x y => D (y * X + x)⟩ : LD) A1 c1 v2 hx1 hx2 hy1 hy2 (fun x y hx hy => (HD.out _ (LD.row_lt (l := (⟨X, Y, fun x y => D (y * X + x)⟩ : LD)) hx hy)).2) (by
    have h := Row.of_cells OA.out
    rw [ZZ.out] at h
    exact h.congr fun i hi j hj => by
      show _ = Value.int .i64 (LD.row _ i)
      rw [row_plain])
  dsimp only at hk
  rw [← ZZ.out] at hk
  have KX := Lib.hid hk
  clear hk
  refine wpAnyE_step (i := 8) rfl (by kernel_rfl) (fun KQ HK => ?_)
  go_wp2_with fail
  refine KX.out.mono ?_
  rintro e v3 ⟨⟨k, pc, P, KA', KC', htop, rfl, hlv, hown⟩, bel⟩
  clear KX
  have TOP := Lib.hid htop
  have OB := Lib.hid (own_below OA.out bel)
  have OB' := Lib.hid (show v3.ownsRow w.heap.size 3 1 (.slice A1 (X * Y) c1) (X * Y) (cellsR 1 (lrow (⟨X, Y, fun x y => D (y * X + x)⟩ : LD)) (X * Y)) by
    have h := OB.out
    rw [ZZ.out] at h
    rw [cellsR_congr (G := fun i _ => Value.int .i64 (D i)) (fun i hi j hj => by unfold lrow; rw [row_plain])]
    exact h)
  have PO := Lib.hid (pown_of (B := w.heap.size) ⟨hlv.A0, hlv.C0, hlv.k6, hlv.no, fun i h1 h2 => own_base (hlv.own i h1 h2) B2.out.size⟩ (own_base hown B2.out.size) OB'.out)
  clear OB OB' OA
  clear htop hlv hown
  have B2' := Lib.hid (B2.out.trans (bel.mono B2.out.size))
  have S1' := Lib.hid (S1.out.below bel)
  have S2' := Lib.hid (S2.out.below bel)
  clear B2 S1 S2 HS
  have B2 := Lib.hid B2'.out
  have S1 := Lib.hid S1'.out
  have S2 := Lib.hid S2'.out
  clear B2' S1' S2'
  have HS := Lib.hid (show (fun Wo => HasBlk Wo w.heap.size 29 #[.int .i64 X, .int .i64 Y, .slice ac nc kc, .slice ad nd kd, .slice ai ni ki, .slice a4 nt kt] ∧ HasBlk Wo w.heap.size 29 #[.int .i64 X, .int .i64 Y, .slice ac nc kc, .slice ad nd kd, .slice ai ni ki, .slice a4 nt kt]) v3 from ⟨S1.out, S1.out⟩)
  clear bel
  go_wp2
  refine HK _ _ (fun _ => HS.out) ?_
  clear HK
  have zb := S2.out.cell 0
  have zf := S2.out.frozen 0
  have zl := S2.out.lt
  simp at zb
  refine wpAnyE_step (i := 9) rfl (by kernel_rfl) (fun KQ HK => ?_)
  go_wp2
  have S2n := Lib.hid (show HasBlk (v3.setCell ⟨(w.heap.size + 1), 0, none⟩ (.slice P (k + 1) pc)) (w.heap.size + 1) 51 #[.slice P (k + 1) pc] by simpa using S2.out.set 0 (.slice P (k + 1) pc))
  have B2n := Lib.hid (show Below w.heap.size w (v3.setCell ⟨(w.heap.size + 1), 0, none⟩ (.slice P (k + 1) pc)) from Below.setCell B2.out (by simp) _)
  have S1n := Lib.hid (S1.out.far (p := ⟨(w.heap.size + 1), 0, none⟩) (by simp) (.slice P (k + 1) pc))
  have POn := Lib.hid (PO.out.pset (j := 0) S2.out (by decide) (by decide) (.slice P (k + 1) pc))
  have HSn := Lib.hid (show (fun Wo => HasBlk Wo w.heap.size 29 #[.int .i64 X, .int .i64 Y, .slice ac nc kc, .slice ad nd kd, .slice ai ni ki, .slice a4 nt kt] ∧ HasBlk Wo w.heap.size 29 #[.int .i64 X, .int .i64 Y, .slice ac nc kc, .slice ad nd kd, .slice ai ni ki, .slice a4 nt kt]) (v3.setCell ⟨(w.heap.size + 1), 0, none⟩ (.slice P (k + 1) pc)) from ⟨S1n.out, S1n.out⟩)
  clear zb zf zl HS S1 S2 B2 PO
  refine HK _ _ (fun _ => HSn.out) ?_
  clear HK
  generalize v3.setCell ⟨(w.heap.size + 1), 0, none⟩ (.slice P (k + 1) pc) = v4 at *
  refine wpAnyE_step (i := 10) rfl (by kernel_rfl) (fun KQ HK => ?_)
  go_wp2
  refine HK _ _ (fun _ => HSn.out) ?_
  clear HK
  refine wpAnyE_done (by kernel_rfl) ?_
  have zb := S2n.out.cell 0
  have zl := S2n.out.lt
  simp at zb
  go_wp2
  refine bodyPost_ret (v := .tuple #[.agg #[.slice P (k + 1) pc], .int .i64 0]) (by simp [results, Try.results33, go_sem, *]) rfl ⟨.inr ⟨HM.out, k, ⟨P, pc, KA', KC'⟩, ?_, rfl, ?_⟩, B2n.out⟩
  · rw [EQ0.out]
    exact TOP.out
  · rw [EQ0.out]
    exact POn.out
end Go.Proofs.Ytibeoeooajelgaa
