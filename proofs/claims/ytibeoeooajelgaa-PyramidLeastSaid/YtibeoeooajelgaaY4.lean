/- pyramid: Check. -/
import Derived.Test.YtibeoeooajelgaaY3
import Derived.Lib.MinMax
import Derived.Test.YtibeoeooajelgaaHeldE2
namespace Go.Proofs.Ytibeoeooajelgaa
open Go.RowKit
set_option linter.unusedVariables false
/-- The first level. -/
def PD.l0 (d : PD) : LD := ⟨(d.W 0).toNat, (d.H 0).toNat, fun x y => d.f 0 (y * (d.W 0).toNat + x)⟩
/-- The pyramid of a first level, up to level k. -/
def LD.pd (l : LD) (k : Nat) : PD := ⟨k + 1, fun i => (l.lev i).W, fun i => (l.lev i).H, l.sz, fun i t => (l.lev i).row t⟩
/-- May a pyramid be? -/
structure PD.May (d : PD) : Prop where
  n : 0 < d.n
  W1 : 1 ≤ d.W 0
  W2 : d.W 0 ≤ 64
  H1 : 1 ≤ d.H 0
  H2 : d.H 0 ≤ 64
  L : (d.L 0 : Int) = d.W 0 * d.H 0
  lo : ∀ k, k < d.L 0 → -2048 ≤ d.f 0 k
  hi : ∀ k, k < d.L 0 → d.f 0 k ≤ 66560
  eq : ∃ k, d.l0.Top k ∧ SamePD (d.l0.pd k) d
open Classical in
noncomputable def chkP (d : PD) : Int := if d.May then 0 else 8
theorem chkP_no {d : PD} (h : ¬ d.May) : chkP d = 8 := if_neg h
theorem chkP_yes {d : PD} (h : d.May) : chkP d = 0 := if_pos h
theorem exists_min (l : Nat → Int) : ∀ n, 0 < n → ∃ m, (∀ i, i < n → m ≤ l i) ∧ ∃ i, i < n ∧ l i = m
  | 0, h => absurd h (by omega)
  | n + 1, _ => by
    rcases Nat.eq_zero_or_pos n with rfl | hn
    · exact ⟨l 0, fun i hi => by rw [show i = 0 by omega]; exact Int.le_refl _, 0, by omega, rfl⟩
    · obtain ⟨m, h1, j, h2, h3⟩ := exists_min l n hn
      rcases Int.lt_or_le (l n) m with h | h
      · refine ⟨l n, fun i hi => ?_, n, by omega, rfl⟩
        by_cases e : i = n
        · subst e; exact Int.le_refl _
        · have := h1 i (by omega); omega
      · refine ⟨m, fun i hi => ?_, j, by omega, h3⟩
        by_cases e : i = n
        · subst e; exact h
        · exact h1 i (by omega)
theorem exists_max (l : Nat → Int) (n : Nat) (hn : 0 < n) : ∃ m, (∀ i, i < n → l i ≤ m) ∧ ∃ i, i < n ∧ l i = m := by
  obtain ⟨m, h1, i, h2, h3⟩ := exists_min (fun i => - l i) n hn
  exact ⟨-m, fun j hj => by have := h1 j hj; omega, i, h2, by omega⟩
theorem build_ok {l : LD} {A : Option Addr} {c B k : Nat} {w : World} {p : PP} (hl : LvI l A c B w p.KA p.KC k) (ho : w.ownsRow B 74 3 (.slice p.A (k + 1) p.c) (k + 1) (cellsR 3 (lvc l p.KA p.KC) (k + 1))) (h0 : Row w A (l.W * l.H) 1 (lrow l)) : POk w p (l.pd k) :=
  ⟨Row.of_cells ho, fun i hi => by
    have hi : i < k + 1 := hi
    rcases Nat.eq_zero_or_pos i with rfl | h
    · rw [hl.A0]
      exact h0
    · exact Row.of_cells (hl.own i h (by omega))⟩
theorem pd_sm {l : LD} {k : Nat} (h1 : l.W ≤ 64) (h2 : l.H ≤ 64) (hk : k ≤ 6) : (l.pd k).Sm := ⟨by show k + 1 ≤ 1000000; omega, fun i hi => by
  have := LD.lev_small h1 h2 i
  have h3 : l.sz i ≤ 64 * 64 := Nat.mul_le_mul this.1 this.2
  show l.sz i ≤ 1000000
  omega⟩
theorem field_lv (P : Option Addr) (n c : Nat) (w : World) : (Instr.field 51 (.agg #[.slice P n c]) 0).run Try.prog w = .ok (.slice P n c) w := by
  simp [Instr.field, run_underlying Try.underlying51, part, isAgg, run_underlying Try.underlying49, asAgg]
theorem PD.l0_row (d : PD) (h : 1 ≤ d.W 0) (i : Nat) : d.l0.row i = d.f 0 i := by
  unfold LD.row PD.l0
  dsimp only
  rw [Nat.mul_comm, Nat.div_add_mod]

set_option maxRecDepth 100000 in
set_option maxHeartbeats 16000000 in
theorem pcheck_any (d : PD) (p : PP) (hsm : d.Sm) (w : World) (hok : POk w p d) :
    Calls Try.prog 39 #[.agg #[.slice p.A d.n p.c]] w fun e w' => e = .returned (.int .i64 (chkP d)) ∧ Below w.heap.size w w' := by
  obtain ⟨A, c, KA, KC⟩ := p
  dsimp only
  have B0 := Lib.hid ((Below.refl w.heap.size w).alloc (Nat.le_refl _) (.cells #[.slice A d.n c] 51))
  have P1 := Lib.hid (hasBlk_new w 51 #[.slice A d.n c])
  have OK := Lib.hid hok
  have Sm := Lib.hid hsm
  have hn := hsm.n
  clear hok hsm
  by_cases hn0 : d.n = 0
  · rw [chkP_no (fun h => by have := h.n; omega)]
    have g0 : (d.n : Int) = 0 := by omega
    clear hn0 hn
    go_enter Try.func39, Try.ntmps39
    go_wp2
    go_ret
    exact ⟨rfl, B0.out⟩
  obtain ⟨gA, oA, hA, hgA, hcA⟩ := OK.out.ls (by omega)
  dsimp only at hA
  subst hA
  have a0 := hcA 0 (by omega) 0 (by omega)
  have a1 := hcA 0 (by omega) 1 (by omega)
  have a2 := hcA 0 (by omega) 2 (by omega)
  simp [pvc] at a0 a1 a2
  have RK := Lib.hid (OK.out.kd 0 (by omega))
  have SL := Lib.hid (Sm.out.L 0 (by omega))
  have NZ := Lib.hid hn0
  have nz1 : ¬ (d.n : Int) = 0 := by omega
  have nz2 : (0 : Int) < (d.n : Int) := by omega
  clear hcA
  dsimp only at RK
  obtain ⟨W, hW⟩ : ∃ W, d.W 0 = W := ⟨_, rfl⟩
  obtain ⟨H, hH⟩ : ∃ H, d.H 0 = H := ⟨_, rfl⟩
  obtain ⟨L, hL⟩ : ∃ L, d.L 0 = L := ⟨_, rfl⟩
  obtain ⟨K0, hK0⟩ : ∃ K0, KA 0 = K0 := ⟨_, rfl⟩
  obtain ⟨C0, hC0⟩ : ∃ C0, KC 0 = C0 := ⟨_, rfl⟩
  rw [hW] at a0
  rw [hH] at a1
  rw [hL, hK0, hC0] at a2
  rw [hL, hK0] at RK
  rw [hL] at SL
  have HW := Lib.hid hW
  have HH := Lib.hid hH
  have HL := Lib.hid hL
  clear hW hH hL hK0 hC0 hn0
  go_enter Try.func39, Try.ntmps39
  by_cases h1 : min W H < 1
  · have g1 : decide (min W H < 1) = true := decide_eq_true h1
    rw [chkP_no (fun h => by have := h.W1; have := h.H1; rw [HW.out] at *; rw [HH.out] at *; omega)]
    clear RK
    go_wp2
    go_ret
    exact ⟨rfl, B0.out.alloc B0.out.size _⟩
  have g1 : decide (min W H < 1) = false := decide_eq_false h1
  by_cases h2 : 64 < max W H
  · have g2 : decide (64 < max W H) = true := decide_eq_true h2
    rw [chkP_no (fun h => by have := h.W2; have := h.H2; rw [HW.out] at *; rw [HH.out] at *; omega)]
    clear RK
    go_wp2
    go_ret
    exact ⟨rfl, B0.out.alloc B0.out.size _⟩
  have g2 : decide (64 < max W H) = false := decide_eq_false h2
  obtain ⟨X, rfl⟩ := Int.eq_ofNat_of_zero_le (show 0 ≤ W by omega)
  obtain ⟨Y, rfl⟩ := Int.eq_ofNat_of_zero_le (show 0 ≤ H by omega)
  have hx1 : 1 ≤ X := by omega
  have hx2 : X ≤ 64 := by omega
  have hy1 : 1 ≤ Y := by omega
  have hy2 : Y ≤ 64 := by omega
  have hmul : (X : Int) * (Y : Int) = ((X * Y : Nat) : Int) := by push_cast; rfl
  have hzz : X * Y ≤ 4096 := Nat.mul_le_mul hx2 hy2
  have w1 : IntKind.i64.wrap (((X * Y : Nat) : Int)) = ((X * Y : Nat) : Int) := IntWalk.i64_in _ (by omega)
  have hz0 : 1 ≤ X * Y := Nat.mul_le_mul hx1 hy1
  generalize hZ : X * Y = Z at *
  have ZZ := Lib.hid hZ
  clear hZ
  by_cases h3 : L = Z
  rotate_left
  · have g3 : ((L : Int) != (Z : Int)) = true := by simp; omega
    rw [chkP_no (fun h => by have h9 := h.L; rw [HW.out, HH.out, HL.out, hmul] at h9; omega)]
    clear RK
    go_wp2
    go_ret
    exact ⟨rfl, B0.out.alloc B0.out.size _⟩
  subst h3
  have g3 : ((L : Int) != (L : Int)) = false := by simp
  go_upto_region 6 with fail
  have BA := (Below.refl (w.alloc (.cells #[.slice (some ⟨gA, oA, none⟩) d.n c] 51)).heap.size (w.alloc (.cells #[.slice (some ⟨gA, oA, none⟩) d.n c] 51))).alloc (Nat.le_refl _) (.cells #[.int .i64 X, .int .i64 Y, .slice K0 L C0] 74)
  have S3 := Lib.hid (hasBlk_new (w.alloc (.cells #[.slice (some ⟨gA, oA, none⟩) d.n c] 51)) 74 #[.int .i64 X, .int .i64 Y, .slice K0 L C0])
  have S1 := Lib.hid (P1.out.below BA)
  have BO := Lib.hid B0.out
  have BI := Lib.hid BA
  obtain ⟨t3, ht3⟩ : ∃ t3, t3 = (w.alloc (.cells #[.slice (some ⟨gA, oA, none⟩) d.n c] 51)).heap.size := ⟨_, rfl⟩
  rw [← ht3] at S3
  simp at ht3
  rw [← ht3]
  clear BA
  generalize hw0 : w.alloc (.cells #[.slice (some ⟨gA, oA, none⟩) d.n c] 51) = w0 at *
  clear hw0
  generalize hw1 : w0.alloc (.cells #[.int .i64 X, .int .i64 Y, .slice K0 L C0] 74) = w1 at *
  clear hw1 ht3 P1 B0
  have bd := (Below.refl w1.heap.size w1).drew
  have HS := Lib.hid (show (fun Wo => HasBlk Wo t3 74 #[.int .i64 X, .int .i64 Y, .slice K0 L C0] ∧ HasBlk Wo w.heap.size 51 #[.slice (some ⟨gA, oA, none⟩) d.n c]) w1 from ⟨S3.out, S1.out⟩)
  have BI' := Lib.hid (BI.out.trans (bd.mono BI.out.size))
  have S1' := Lib.hid (S1.out.below bd)
  have S3' := Lib.hid (S3.out.below bd)
  clear BI S1 S3 HS
  have BI := Lib.hid BI'.out
  have S1 := Lib.hid S1'.out
  have S3 := Lib.hid S3'.out
  clear BI' S1' S3'
  have HS := Lib.hid (show (fun Wo => HasBlk Wo t3 74 #[.int .i64 X, .int .i64 Y, .slice K0 L C0] ∧ HasBlk Wo w.heap.size 51 #[.slice (some ⟨gA, oA, none⟩) d.n c]) w1.drew from ⟨S3.out, S1.out⟩)
  clear bd
  refine wp_region_E (fun Wo => HasBlk Wo t3 74 #[.int .i64 X, .int .i64 Y, .slice K0 L C0] ∧ HasBlk Wo w.heap.size 51 #[.slice (some ⟨gA, oA, none⟩) d.n c]) 99 (by kernel_rfl) ?_
  generalize gwd : w1.drew = v1 at *
  clear gwd
  obtain ⟨mn, hmn, jn, hjn, hmn2⟩ := exists_min (d.f 0) L (by omega)
  obtain ⟨mx, hmx, jx, hjx, hmx2⟩ := exists_max (d.f 0) L (by omega)
  have MN := Lib.hid (And.intro hmn (And.intro hjn hmn2))
  have MX := Lib.hid (And.intro hmx (And.intro hjx hmx2))
  clear hmn hjn hmn2 hmx hjx hmx2
  refine wpAnyE_takeA (i := 0) (v := .pointer (some ⟨t3, 2, none⟩)) rfl (by kernel_rfl) (fun _ _ _ h => h) (.inl ⟨by first | kernel_rfl | rfl, fun W hW => ?_⟩) HS.out ?_
  · obtain ⟨hWP, hWA⟩ := hW
    have q0 := hWP.cell 0
    have q1 := hWP.cell 1
    have q2 := hWP.cell 2
    have r0 := hWA.cell 0
    simp at q0 q1 q2 r0
    go_simp
  simp only [Act.put, List.setIfInBounds_toArray]
  refine wpAnyE_takeA (i := 1) (v := .slice K0 L C0) rfl (by kernel_rfl) (fun _ _ _ h => h) (.inl ⟨by first | kernel_rfl | rfl, fun W hW => ?_⟩) HS.out ?_
  · obtain ⟨hWP, hWA⟩ := hW
    have q0 := hWP.cell 0
    have q1 := hWP.cell 1
    have q2 := hWP.cell 2
    have r0 := hWA.cell 0
    simp at q0 q1 q2 r0
    go_simp
  simp only [Act.put]
  refine wpAnyE_step (i := 2) rfl (by kernel_rfl) (fun KQ HK => ?_)
  have KX := Lib.hid (min_any K0 L C0 (d.f 0) v1 (RK.out.below (BO.out.trans (BI.out.mono BO.out.size))) (by omega) SL.out)
  go_wp2_with fail
  refine KX.out.mono ?_
  rintro e v2 ⟨⟨m', rfl, hm1, jj, hj1, hj2⟩, bel⟩
  clear KX
  obtain rfl : mn = m' := by
    have k1 := MN.out.1 jj hj1
    have k2 := hm1 jn MN.out.2.1
    have k3 := MN.out.2.2
    omega
  clear hm1 hj1 hj2
  have BI' := Lib.hid (BI.out.trans (bel.mono BI.out.size))
  have S1' := Lib.hid (S1.out.below bel)
  have S3' := Lib.hid (S3.out.below bel)
  clear BI S1 S3 HS
  have BI := Lib.hid BI'.out
  have S1 := Lib.hid S1'.out
  have S3 := Lib.hid S3'.out
  clear BI' S1' S3'
  have HS := Lib.hid (show (fun Wo => HasBlk Wo t3 74 #[.int .i64 X, .int .i64 Y, .slice K0 L C0] ∧ HasBlk Wo w.heap.size 51 #[.slice (some ⟨gA, oA, none⟩) d.n c]) v2 from ⟨S3.out, S1.out⟩)
  clear bel
  go_wp2
  refine HK _ _ (fun _ => HS.out) ?_
  clear HK
  by_cases hlo : mn < -2048
  · have g4 : decide (mn < -2048) = true := decide_eq_true hlo
    have CV := Lib.hid (chkP_no (d := d) (fun h => by have h9 := h.lo jn (by rw [HL.out]; exact MN.out.2.1); have := MN.out.2.2; omega))
    refine wpAnyE_step (i := 3) rfl (by kernel_rfl) (fun KQ HK => ?_)
    go_wp2
    refine HK _ _ (fun _ => HS.out) ?_
    clear HK
    refine wpAnyE_step (i := 4) rfl (by kernel_rfl) (fun KQ HK => ?_)
    go_wp2
    refine HK _ _ (fun _ => HS.out) ?_
    clear HK
    refine wpAnyE_takeA (i := 5) (v := undef) rfl (by kernel_rfl) (fun _ _ _ h => h) (.inr ⟨by first | kernel_rfl | rfl, rfl⟩) HS.out ?_
    simp only [Act.put, List.setIfInBounds_toArray]
    refine wpAnyE_takeA (i := 6) (v := undef) rfl (by kernel_rfl) (fun _ _ _ h => h) (.inr ⟨by first | kernel_rfl | rfl, rfl⟩) HS.out ?_
    simp only [Act.put]
    refine wpAnyE_takeA (i := 7) (v := undef) rfl (by kernel_rfl) (fun _ _ _ h => h) (.inr ⟨by first | kernel_rfl | rfl, rfl⟩) HS.out ?_
    simp only [Act.put]
    refine wpAnyE_takeA (i := 8) (v := undef) rfl (by kernel_rfl) (fun _ _ _ h => h) (.inr ⟨by first | kernel_rfl | rfl, rfl⟩) HS.out ?_
    simp only [Act.put]
    refine wpAnyE_step (i := 9) rfl (by kernel_rfl) (fun KQ HK => ?_)
    go_wp2
    refine HK _ _ (fun _ => HS.out) ?_
    clear HK
    refine wpAnyE_step (i := 10) rfl (by kernel_rfl) (fun KQ HK => ?_)
    go_wp2
    refine HK _ _ (fun _ => HS.out) ?_
    clear HK
    refine wpAnyE_takeA (i := 11) (v := undef) rfl (by kernel_rfl) (fun _ _ _ h => h) (.inr ⟨by first | kernel_rfl | rfl, rfl⟩) HS.out ?_
    simp only [Act.put, List.setIfInBounds_toArray]
    refine wpAnyE_takeA (i := 14) (v := undef) rfl (by kernel_rfl) (fun _ _ _ h => h) (.inr ⟨by first | kernel_rfl | rfl, rfl⟩) HS.out ?_
    simp only [Act.put]
    refine wpAnyE_takeA (i := 12) (v := undef) rfl (by kernel_rfl) (fun _ _ _ h => h) (.inr ⟨by first | kernel_rfl | rfl, rfl⟩) HS.out ?_
    simp only [Act.put]
    refine wpAnyE_takeA (i := 13) (v := undef) rfl (by kernel_rfl) (fun _ _ _ h => h) (.inr ⟨by first | kernel_rfl | rfl, rfl⟩) HS.out ?_
    simp only [Act.put]
    refine wpAnyE_takeA (i := 15) (v := undef) rfl (by kernel_rfl) (fun _ _ _ h => h) (.inr ⟨by first | kernel_rfl | rfl, rfl⟩) HS.out ?_
    simp only [Act.put]
    refine wpAnyE_takeA (i := 16) (v := undef) rfl (by kernel_rfl) (fun _ _ _ h => h) (.inr ⟨by first | kernel_rfl | rfl, rfl⟩) HS.out ?_
    simp only [Act.put]
    refine wpAnyE_takeA (i := 17) (v := undef) rfl (by kernel_rfl) (fun _ _ _ h => h) (.inr ⟨by first | kernel_rfl | rfl, rfl⟩) HS.out ?_
    simp only [Act.put]
    refine wpAnyE_step (i := 18) rfl (by kernel_rfl) (fun KQ HK => ?_)
    go_wp2
    refine HK _ _ (fun _ => HS.out) ?_
    clear HK
    refine wpAnyE_done (by kernel_rfl) ?_
    go_wp2
    go_ret
    exact ⟨by rw [CV.out]; rfl, BO.out.trans (BI.out.mono BO.out.size)⟩
  have g4 : decide (mn < -2048) = false := decide_eq_false hlo
  refine wpAnyE_step (i := 3) rfl (by kernel_rfl) (fun KQ HK => ?_)
  go_wp2
  refine HK _ _ (fun _ => HS.out) ?_
  clear HK
  refine wpAnyE_step (i := 4) rfl (by kernel_rfl) (fun KQ HK => ?_)
  go_wp2
  refine HK _ _ (fun _ => HS.out) ?_
  clear HK
  refine wpAnyE_takeA (i := 5) (v := .pointer (some ⟨t3, 2, none⟩)) rfl (by kernel_rfl) (fun _ _ _ h => h) (.inl ⟨by first | kernel_rfl | rfl, fun W hW => ?_⟩) HS.out ?_
  · obtain ⟨hWP, hWA⟩ := hW
    have q0 := hWP.cell 0
    have q1 := hWP.cell 1
    have q2 := hWP.cell 2
    have r0 := hWA.cell 0
    simp at q0 q1 q2 r0
    go_simp
  simp only [Act.put, List.setIfInBounds_toArray]
  refine wpAnyE_takeA (i := 6) (v := .slice K0 L C0) rfl (by kernel_rfl) (fun _ _ _ h => h) (.inl ⟨by first | kernel_rfl | rfl, fun W hW => ?_⟩) HS.out ?_
  · obtain ⟨hWP, hWA⟩ := hW
    have q0 := hWP.cell 0
    have q1 := hWP.cell 1
    have q2 := hWP.cell 2
    have r0 := hWA.cell 0
    simp at q0 q1 q2 r0
    go_simp
  simp only [Act.put]
  refine wpAnyE_step (i := 7) rfl (by kernel_rfl) (fun KQ HK => ?_)
  have KX := Lib.hid (max_any K0 L C0 (d.f 0) v2 (RK.out.below (BO.out.trans (BI.out.mono BO.out.size))) (by omega) SL.out)
  go_wp2_with fail
  refine KX.out.mono ?_
  rintro e v3 ⟨⟨m', rfl, hm1, jj, hj1, hj2⟩, bel⟩
  clear KX
  obtain rfl : mx = m' := by
    have k1 := MX.out.1 jj hj1
    have k2 := hm1 jx MX.out.2.1
    have k3 := MX.out.2.2
    omega
  clear hm1 hj1 hj2
  have BI' := Lib.hid (BI.out.trans (bel.mono BI.out.size))
  have S1' := Lib.hid (S1.out.below bel)
  have S3' := Lib.hid (S3.out.below bel)
  clear BI S1 S3 HS
  have BI := Lib.hid BI'.out
  have S1 := Lib.hid S1'.out
  have S3 := Lib.hid S3'.out
  clear BI' S1' S3'
  have HS := Lib.hid (show (fun Wo => HasBlk Wo t3 74 #[.int .i64 X, .int .i64 Y, .slice K0 L C0] ∧ HasBlk Wo w.heap.size 51 #[.slice (some ⟨gA, oA, none⟩) d.n c]) v3 from ⟨S3.out, S1.out⟩)
  clear bel
  go_wp2
  refine HK _ _ (fun _ => HS.out) ?_
  clear HK
  by_cases hhi : 66560 < mx
  · have g5 : decide (66560 < mx) = true := decide_eq_true hhi
    have CV := Lib.hid (chkP_no (d := d) (fun h => by have h9 := h.hi jx (by rw [HL.out]; exact MX.out.2.1); have := MX.out.2.2; omega))
    refine wpAnyE_step (i := 8) rfl (by kernel_rfl) (fun KQ HK => ?_)
    go_wp2
    refine HK _ _ (fun _ => HS.out) ?_
    clear HK
    refine wpAnyE_step (i := 9) rfl (by kernel_rfl) (fun KQ HK => ?_)
    go_wp2
    refine HK _ _ (fun _ => HS.out) ?_
    clear HK
    refine wpAnyE_step (i := 10) rfl (by kernel_rfl) (fun KQ HK => ?_)
    go_wp2
    refine HK _ _ (fun _ => HS.out) ?_
    clear HK
    refine wpAnyE_takeA (i := 11) (v := undef) rfl (by kernel_rfl) (fun _ _ _ h => h) (.inr ⟨by first | kernel_rfl | rfl, rfl⟩) HS.out ?_
    simp only [Act.put, List.setIfInBounds_toArray]
    refine wpAnyE_takeA (i := 14) (v := undef) rfl (by kernel_rfl) (fun _ _ _ h => h) (.inr ⟨by first | kernel_rfl | rfl, rfl⟩) HS.out ?_
    simp only [Act.put]
    refine wpAnyE_takeA (i := 12) (v := undef) rfl (by kernel_rfl) (fun _ _ _ h => h) (.inr ⟨by first | kernel_rfl | rfl, rfl⟩) HS.out ?_
    simp only [Act.put]
    refine wpAnyE_takeA (i := 13) (v := undef) rfl (by kernel_rfl) (fun _ _ _ h => h) (.inr ⟨by first | kernel_rfl | rfl, rfl⟩) HS.out ?_
    simp only [Act.put]
    refine wpAnyE_takeA (i := 15) (v := undef) rfl (by kernel_rfl) (fun _ _ _ h => h) (.inr ⟨by first | kernel_rfl | rfl, rfl⟩) HS.out ?_
    simp only [Act.put]
    refine wpAnyE_takeA (i := 16) (v := undef) rfl (by kernel_rfl) (fun _ _ _ h => h) (.inr ⟨by first | kernel_rfl | rfl, rfl⟩) HS.out ?_
    simp only [Act.put]
    refine wpAnyE_takeA (i := 17) (v := undef) rfl (by kernel_rfl) (fun _ _ _ h => h) (.inr ⟨by first | kernel_rfl | rfl, rfl⟩) HS.out ?_
    simp only [Act.put]
    refine wpAnyE_step (i := 18) rfl (by kernel_rfl) (fun KQ HK => ?_)
    go_wp2
    refine HK _ _ (fun _ => HS.out) ?_
    clear HK
    refine wpAnyE_done (by kernel_rfl) ?_
    go_wp2
    go_ret
    exact ⟨by rw [CV.out]; rfl, BO.out.trans (BI.out.mono BO.out.size)⟩
  have g5 : decide (66560 < mx) = false := decide_eq_false hhi
  refine wpAnyE_step (i := 8) rfl (by kernel_rfl) (fun KQ HK => ?_)
  go_wp2
  refine HK _ _ (fun _ => HS.out) ?_
  clear HK
  refine wpAnyE_step (i := 9) rfl (by kernel_rfl) (fun KQ HK => ?_)
  go_wp2
  refine HK _ _ (fun _ => HS.out) ?_
  clear HK
  refine wpAnyE_step (i := 10) rfl (by kernel_rfl) (fun KQ HK => ?_)
  go_wp2
  refine HK _ _ (fun _ => HS.out) ?_
  clear HK
  refine wpAnyE_takeA (i := 11) (v := .agg #[.int .i64 X, .int .i64 Y, .slice K0 L C0]) rfl (by kernel_rfl) (fun _ _ _ h => h) (.inl ⟨by first | kernel_rfl | rfl, fun W hW => ?_⟩) HS.out ?_
  · obtain ⟨hWP, hWA⟩ := hW
    have q0 := hWP.cell 0
    have q1 := hWP.cell 1
    have q2 := hWP.cell 2
    have r0 := hWA.cell 0
    simp at q0 q1 q2 r0
    go_simp
  simp only [Act.put, List.setIfInBounds_toArray]
  refine wpAnyE_takeA (i := 14) (v := .pointer (some ⟨w.heap.size, 0, none⟩)) rfl (by kernel_rfl) (fun _ _ _ h => h) (.inl ⟨by first | kernel_rfl | rfl, fun W hW => ?_⟩) HS.out ?_
  · obtain ⟨hWP, hWA⟩ := hW
    have q0 := hWP.cell 0
    have q1 := hWP.cell 1
    have q2 := hWP.cell 2
    have r0 := hWA.cell 0
    simp at q0 q1 q2 r0
    go_simp
  simp only [Act.put]
  refine wpAnyE_takeA (i := 15) (v := .slice (some ⟨gA, oA, none⟩) d.n c) rfl (by kernel_rfl) (fun _ _ _ h => h) (.inl ⟨by first | kernel_rfl | rfl, fun W hW => ?_⟩) HS.out ?_
  · obtain ⟨hWP, hWA⟩ := hW
    have q0 := hWP.cell 0
    have q1 := hWP.cell 1
    have q2 := hWP.cell 2
    have r0 := hWA.cell 0
    simp at q0 q1 q2 r0
    go_simp
  simp only [Act.put]
  have hk := build_any (⟨X, Y, fun x y => d.f 0 (y * X + x)⟩ : LD) K0 C0 v3 hx1 hy1 hx2 hy2 (by
    have h := (RK.out.below (BO.out.trans (BI.out.mono BO.out.size)))
    have e := ZZ.out
    subst e
    refine h.congr fun i hi j hj => ?_
    show _ = Value.int .i64 (LD.row _ i)
    rw [show LD.row (⟨X, Y, fun x y => d.f 0 (y * X + x)⟩ : LD) i = d.f 0 i by unfold LD.row; dsimp only; rw [Nat.mul_comm, Nat.div_add_mod]])
  dsimp only at hk
  rw [ZZ.out] at hk
  have KX := Lib.hid hk
  clear hk
  refine wpAnyE_step (i := 12) rfl (by kernel_rfl) (fun KQ HK => ?_)
  go_wp2_with fail
  refine KX.out.mono ?_
  rintro e v4 ⟨⟨k, pc, P, KA', KC', htop, rfl, hlv, hown⟩, bel⟩
  clear KX
  have TOP := Lib.hid htop
  have R0 := Lib.hid ((RK.out.below (BO.out.trans (BI.out.mono BO.out.size))).below bel)
  have BOK := Lib.hid (build_ok (p := ⟨P, pc, KA', KC'⟩) hlv hown (by
    have h := R0.out
    have e := ZZ.out
    subst e
    refine h.congr fun i hi j hj => ?_
    show _ = Value.int .i64 (LD.row _ i)
    rw [show LD.row (⟨X, Y, fun x y => d.f 0 (y * X + x)⟩ : LD) i = d.f 0 i by unfold LD.row; dsimp only; rw [Nat.mul_comm, Nat.div_add_mod]]))
  have K6 := Lib.hid hlv.k6
  clear htop hlv hown R0
  have BI' := Lib.hid (BI.out.trans (bel.mono BI.out.size))
  have S1' := Lib.hid (S1.out.below bel)
  have S3' := Lib.hid (S3.out.below bel)
  clear BI S1 S3 HS
  have BI := Lib.hid BI'.out
  have S1 := Lib.hid S1'.out
  have S3 := Lib.hid S3'.out
  clear BI' S1' S3'
  have HS := Lib.hid (show (fun Wo => HasBlk Wo t3 74 #[.int .i64 X, .int .i64 Y, .slice K0 L C0] ∧ HasBlk Wo w.heap.size 51 #[.slice (some ⟨gA, oA, none⟩) d.n c]) v4 from ⟨S3.out, S1.out⟩)
  clear bel
  go_wp2
  refine HK _ _ (fun _ => HS.out) ?_
  clear HK
  have hfl := fun W => field_lv P (k + 1) pc W
  refine wpAnyE_step (i := 13) rfl (by kernel_rfl) (fun KQ HK => ?_)
  go_wp2
  refine HK _ _ (fun _ => HS.out) ?_
  clear HK
  clear hfl
  have OKW := Lib.hid (OK.out.below (BO.out.trans (BI.out.mono BO.out.size)))
  refine wpAnyE_step (i := 16) rfl (by kernel_rfl) (fun KQ HK => ?_)
  have KX := Lib.hid (eqf_any ((⟨X, Y, fun x y => d.f 0 (y * X + x)⟩ : LD).pd k) d ⟨P, pc, KA', KC'⟩ _ v4 BOK.out OKW.out (pd_sm hx2 hy2 K6.out))
  go_wp2_with fail
  refine KX.out.mono ?_
  rintro e v5 ⟨⟨b, rfl, hb⟩, bel⟩
  clear KX BOK OKW
  have EB := Lib.hid hb
  clear hb
  have BI' := Lib.hid (BI.out.trans (bel.mono BI.out.size))
  have S1' := Lib.hid (S1.out.below bel)
  have S3' := Lib.hid (S3.out.below bel)
  clear BI S1 S3 HS
  have BI := Lib.hid BI'.out
  have S1 := Lib.hid S1'.out
  have S3 := Lib.hid S3'.out
  clear BI' S1' S3'
  have HS := Lib.hid (show (fun Wo => HasBlk Wo t3 74 #[.int .i64 X, .int .i64 Y, .slice K0 L C0] ∧ HasBlk Wo w.heap.size 51 #[.slice (some ⟨gA, oA, none⟩) d.n c]) v5 from ⟨S3.out, S1.out⟩)
  clear bel
  go_wp2
  refine HK _ _ (fun _ => HS.out) ?_
  clear HK
  have EQ0 := Lib.hid (show d.l0 = (⟨X, Y, fun x y => d.f 0 (y * X + x)⟩ : LD) by unfold PD.l0; rw [HW.out, HH.out]; rfl)
  cases b
  · have CV := Lib.hid (chkP_no (d := d) (fun h => by
      obtain ⟨k2, ht2, hs2⟩ := h.eq
      rw [EQ0.out] at ht2 hs2
      obtain rfl := LD.Top.fn ht2 TOP.out
      have := EB.out.2 hs2
      cases this))
    refine wpAnyE_step (i := 17) rfl (by kernel_rfl) (fun KQ HK => ?_)
    go_wp2
    refine HK _ _ (fun _ => HS.out) ?_
    clear HK
    refine wpAnyE_step (i := 18) rfl (by kernel_rfl) (fun KQ HK => ?_)
    go_wp2
    refine HK _ _ (fun _ => HS.out) ?_
    clear HK
    refine wpAnyE_done (by kernel_rfl) ?_
    go_wp2
    go_ret
    exact ⟨by rw [CV.out]; rfl, BO.out.trans (BI.out.mono BO.out.size)⟩
  · have CV := Lib.hid (chkP_yes (d := d) ⟨by have := NZ.out; omega, by rw [HW.out]; omega, by rw [HW.out]; omega, by rw [HH.out]; omega, by rw [HH.out]; omega, by rw [HL.out, HW.out, HH.out, hmul], fun i hi => by have := MN.out.1 i (by rw [← HL.out]; exact hi); omega, fun i hi => by have := MX.out.1 i (by rw [← HL.out]; exact hi); omega, k, by rw [EQ0.out]; exact TOP.out, by rw [EQ0.out]; exact EB.out.1 (by first | rfl | trivial)⟩)
    refine wpAnyE_step (i := 17) rfl (by kernel_rfl) (fun KQ HK => ?_)
    go_wp2
    refine HK _ _ (fun _ => HS.out) ?_
    clear HK
    refine wpAnyE_step (i := 18) rfl (by kernel_rfl) (fun KQ HK => ?_)
    go_wp2
    refine HK _ _ (fun _ => HS.out) ?_
    clear HK
    refine wpAnyE_done (by kernel_rfl) ?_
    go_wp2
    go_ret
    exact ⟨by rw [CV.out]; rfl, BO.out.trans (BI.out.mono BO.out.size)⟩
end Go.Proofs.Ytibeoeooajelgaa
