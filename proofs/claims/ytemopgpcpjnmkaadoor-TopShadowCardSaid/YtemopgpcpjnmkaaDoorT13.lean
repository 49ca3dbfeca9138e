/- top: corners on the screen: places, areas. -/
import Derived.Test.YtemopgpcpjnmkaaDoorT12
import Derived.Test.YtemopgpcpjnmkaaDoorT9
import Derived.Test.YtemopgpcpjnmkaaDoorLoad
namespace Go.Proofs.YtemopgpcpjnmkaaDoor
open Go.RowKit
set_option linter.unusedVariables false
def CD.place (c : CD) (a : P5) : S5 := ⟨8 * c.F * a.p.x / a.p.z + 4 * c.W, 4 * c.H - 8 * c.F * a.p.y / a.p.z, 16777216 / a.p.z, a.u, a.v⟩
theorem place_bd {g n z : Int} (hg : 0 ≤ g ∧ g ≤ 512) (hn : -24576 ≤ n ∧ n ≤ 24576) (hz : 256 ≤ z) : (-12582912 ≤ g * n ∧ g * n ≤ 12582912) ∧ -49152 ≤ g * n / z ∧ g * n / z ≤ 49152 := by
  have k1 : -12582912 ≤ g * n := by
    have := Int.mul_le_mul_of_nonneg_left hn.1 hg.1
    have : g * -24576 = -(g * 24576) := by rw [Int.mul_neg]
    omega
  have k2 : g * n ≤ 12582912 := by
    have := Int.mul_le_mul_of_nonneg_left hn.2 hg.1
    omega
  refine ⟨⟨k1, k2⟩, ?_, ?_⟩
  · rw [Int.le_ediv_iff_mul_le (by omega)]
    have := Int.mul_le_mul_of_nonneg_left hz (show (0 : Int) ≤ 49152 by decide)
    rw [Int.neg_mul]; omega
  · refine Int.ediv_le_of_le_mul (by omega) ?_
    have := Int.mul_le_mul_of_nonneg_left hz (show (0 : Int) ≤ 49152 by decide)
    omega
theorem depth_bd {z : Int} (h1 : 256 ≤ z) (h2 : z ≤ 32768) : 1 ≤ 16777216 / z ∧ 16777216 / z ≤ 65536 := by
  constructor
  · rw [Int.le_ediv_iff_mul_le (by omega)]; omega
  · refine Int.ediv_le_of_le_mul (by omega) ?_
    have := Int.mul_le_mul_of_nonneg_left h1 (show (0 : Int) ≤ 65536 by decide)
    omega
theorem CD.place_ok {c : CD} {a : P5} (hc : c.Ok) (ha : a.Ok) (hz : c.N ≤ a.p.z) : (c.place a).Ok := by
  have cm := hc.1.2
  unfold P5.Ok at ha
  unfold Wi at ha cm
  have b1 := place_bd (g := 8 * c.F) (n := a.p.x) (z := a.p.z) (by omega) (by omega) (by omega)
  have b2 := place_bd (g := 8 * c.F) (n := a.p.y) (z := a.p.z) (by omega) (by omega) (by omega)
  have b3 := depth_bd (z := a.p.z) (by omega) (by omega)
  unfold S5.Ok CD.place Wi
  dsimp only
  omega
/-- Three corners. -/
structure T3 where
  a : S5
  b : S5
  c : S5
def T3.Ok (t : T3) : Prop := t.a.Ok ∧ t.b.Ok ∧ t.c.Ok
def T3.area (t : T3) : Int := (t.b.x - t.a.x) * (t.c.y - t.a.y) - (t.c.x - t.a.x) * (t.b.y - t.a.y)
def T3.front (t : T3) : T3 := if t.area < 0 then ⟨t.a, t.c, t.b⟩ else t
def shw (n : Int) (cull : Int) : Bool := if cull = 0 then decide (¬ n = 0) else if cull = 1 then decide (0 < n) else decide (n < 0)
theorem mul_bd2 {A B a b : Int} (hA : 0 ≤ A) (ha : -A ≤ a ∧ a ≤ A) (hb : -B ≤ b ∧ b ≤ B) : -(A * B) ≤ a * b ∧ a * b ≤ A * B := by
  rcases Int.le_total 0 a with h | h
  · have k1 := Int.mul_le_mul_of_nonneg_left hb.1 h
    have k2 := Int.mul_le_mul_of_nonneg_left hb.2 h
    have hB : 0 ≤ B := by omega
    have k3 := Int.mul_le_mul_of_nonneg_right ha.2 hB
    have e : a * -B = -(a * B) := Int.mul_neg _ _
    omega
  · have k1 := Int.mul_le_mul_of_nonpos_left h hb.1
    have k2 := Int.mul_le_mul_of_nonpos_left h hb.2
    have hB : 0 ≤ B := by omega
    have k3 := Int.mul_le_mul_of_nonneg_right ha.1 hB
    have e : a * -B = -(a * B) := Int.mul_neg _ _
    have e2 : -A * B = -(A * B) := Int.neg_mul _ _
    omega
/-- The products of an area. -/
theorem T3.prods {t : T3} (h : t.Ok) : (-17179869184 ≤ (t.b.x - t.a.x) * (t.c.y - t.a.y) ∧ (t.b.x - t.a.x) * (t.c.y - t.a.y) ≤ 17179869184) ∧ (-17179869184 ≤ (t.c.x - t.a.x) * (t.b.y - t.a.y) ∧ (t.c.x - t.a.x) * (t.b.y - t.a.y) ≤ 17179869184) := by
  unfold T3.Ok S5.Ok Wi at h
  exact ⟨mul_bd2 (A := 131072) (B := 131072) (by decide) (by omega) (by omega), mul_bd2 (A := 131072) (B := 131072) (by decide) (by omega) (by omega)⟩
theorem ix_spot0 (t : T3) (W : World) : (Instr.index 87 (.agg #[.int .i64 t.a.x, .int .i64 t.a.y, .int .i64 t.a.d, .int .i64 t.a.u, .int .i64 t.a.v, .int .i64 t.b.x, .int .i64 t.b.y, .int .i64 t.b.d, .int .i64 t.b.u, .int .i64 t.b.v, .int .i64 t.c.x, .int .i64 t.c.y, .int .i64 t.c.d, .int .i64 t.c.u, .int .i64 t.c.v]) (.int .i64 0)).run Tryd.prog W = .ok (.agg #[.int .i64 t.a.x, .int .i64 t.a.y, .int .i64 t.a.d, .int .i64 t.a.u, .int .i64 t.a.v]) W := by kernel_rfl
theorem ix_spot1 (t : T3) (W : World) : (Instr.index 87 (.agg #[.int .i64 t.a.x, .int .i64 t.a.y, .int .i64 t.a.d, .int .i64 t.a.u, .int .i64 t.a.v, .int .i64 t.b.x, .int .i64 t.b.y, .int .i64 t.b.d, .int .i64 t.b.u, .int .i64 t.b.v, .int .i64 t.c.x, .int .i64 t.c.y, .int .i64 t.c.d, .int .i64 t.c.u, .int .i64 t.c.v]) (.int .i64 1)).run Tryd.prog W = .ok (.agg #[.int .i64 t.b.x, .int .i64 t.b.y, .int .i64 t.b.d, .int .i64 t.b.u, .int .i64 t.b.v]) W := by kernel_rfl
theorem ix_spot2 (t : T3) (W : World) : (Instr.index 87 (.agg #[.int .i64 t.a.x, .int .i64 t.a.y, .int .i64 t.a.d, .int .i64 t.a.u, .int .i64 t.a.v, .int .i64 t.b.x, .int .i64 t.b.y, .int .i64 t.b.d, .int .i64 t.b.u, .int .i64 t.b.v, .int .i64 t.c.x, .int .i64 t.c.y, .int .i64 t.c.d, .int .i64 t.c.u, .int .i64 t.c.v]) (.int .i64 2)).run Tryd.prog W = .ok (.agg #[.int .i64 t.c.x, .int .i64 t.c.y, .int .i64 t.c.d, .int .i64 t.c.u, .int .i64 t.c.v]) W := by kernel_rfl

set_option maxRecDepth 100000 in
set_option maxHeartbeats 16000000 in
theorem place_any (c : CD) (a : P5) (hc : c.Ok) (ha : a.Ok) (hz : c.N ≤ a.p.z) (w : World) : Calls Tryd.prog 51 #[.agg #[.int .i64 c.p.x, .int .i64 c.p.y, .int .i64 c.p.z, .int .i64 (c.m 0), .int .i64 (c.m 1), .int .i64 (c.m 2), .int .i64 (c.m 3), .int .i64 (c.m 4), .int .i64 (c.m 5), .int .i64 (c.m 6), .int .i64 (c.m 7), .int .i64 (c.m 8), .int .i64 c.F, .int .i64 c.N, .int .i64 c.W, .int .i64 c.H], .agg #[.int .i64 a.p.x, .int .i64 a.p.y, .int .i64 a.p.z, .int .i64 a.u, .int .i64 a.v]] w fun e w' => e = .returned (.tuple #[.agg #[.int .i64 ((c.place a).x), .int .i64 ((c.place a).y), .int .i64 ((c.place a).d), .int .i64 ((c.place a).u), .int .i64 ((c.place a).v)], .int .i64 0]) ∧ Below w.heap.size w w' := by
  have HC := Lib.hid hc
  have HA := Lib.hid ha
  have HZ := Lib.hid hz
  clear hc ha hz
  obtain ⟨v0, hv0, P2, P3, P4, HB⟩ := lay3 w 31 #[.int .i64 c.p.x, .int .i64 c.p.y, .int .i64 c.p.z, .int .i64 (c.m 0), .int .i64 (c.m 1), .int .i64 (c.m 2), .int .i64 (c.m 3), .int .i64 (c.m 4), .int .i64 (c.m 5), .int .i64 (c.m 6), .int .i64 (c.m 7), .int .i64 (c.m 8), .int .i64 c.F, .int .i64 c.N, .int .i64 c.W, .int .i64 c.H] 124 #[.int .i64 a.p.x, .int .i64 a.p.y, .int .i64 a.p.z, .int .i64 a.u, .int .i64 a.v] 86 #[.int .i64 0, .int .i64 0, .int .i64 0, .int .i64 0, .int .i64 0]
  go_enter Tryd.func51, Tryd.ntmps51
  go_upto_region 1 with fail
  rw [← hv0.out]
  clear hv0
  have p2_ := P2.out.c16
  have KX := Lib.hid (ccheck_ok c HC.out v0)
  go_wp2_with fail
  refine KX.out.mono ?_
  rintro e v1 ⟨rfl, bel⟩
  clear KX
  clear p2_
  replace P2 := mB P2 bel
  replace P3 := mB P3 bel
  replace P4 := mB P4 bel
  replace HB := mT HB bel
  clear bel
  have p3_ := P3.out.c5
  have KX := Lib.hid (pcheck_ok a HA.out v1)
  go_wp2_with fail
  refine KX.out.mono ?_
  rintro e v2 ⟨rfl, bel⟩
  clear KX
  clear p3_
  replace P2 := mB P2 bel
  replace P3 := mB P3 bel
  replace P4 := mB P4 bel
  replace HB := mT HB bel
  clear bel
  have cF := HC.out.1.2.1
  have cN := HC.out.1.2.2.1
  have cW := HC.out.1.2.2.2.1
  have cH := HC.out.1.2.2.2.2
  have hp := HA.out
  have hz0 := HZ.out
  unfold P5.Ok at hp
  unfold Wi at cF cN cW cH hp
  have b1 := place_bd (g := 8 * c.F) (n := a.p.x) (z := a.p.z) (by omega) (by omega) (by omega)
  have b2 := place_bd (g := 8 * c.F) (n := a.p.y) (z := a.p.z) (by omega) (by omega) (by omega)
  have b3 := depth_bd (z := a.p.z) (by omega) (by omega)
  have g1 : decide (a.p.z < c.N) = false := decide_eq_false (by omega)
  have w0 : IntKind.i64.wrap (8 * c.F) = 8 * c.F := IntWalk.i64_in _ (by omega)
  have w1 : IntKind.i64.wrap (8 * c.F * a.p.x) = 8 * c.F * a.p.x := IntWalk.i64_in _ (by omega)
  have w2 : IntKind.i64.wrap (8 * c.F * a.p.y) = 8 * c.F * a.p.y := IntWalk.i64_in _ (by omega)
  have w3 : IntKind.i64.wrap (4 * c.W) = 4 * c.W := IntWalk.i64_in _ (by omega)
  have w4 : IntKind.i64.wrap (4 * c.H) = 4 * c.H := IntWalk.i64_in _ (by omega)
  have w5 : IntKind.i64.wrap (8 * c.F * a.p.x / a.p.z + 4 * c.W) = 8 * c.F * a.p.x / a.p.z + 4 * c.W := IntWalk.i64_in _ (by omega)
  have w6 : IntKind.i64.wrap (4 * c.H - 8 * c.F * a.p.y / a.p.z) = 4 * c.H - 8 * c.F * a.p.y / a.p.z := IntWalk.i64_in _ (by omega)
  have hd : (16777216 : Int).tdiv a.p.z = 16777216 / a.p.z := Int.tdiv_eq_ediv_of_nonneg (by decide)
  have hd0 : ¬ a.p.z = 0 := by omega
  have hd2 : IntKind.i64.wrap (16777216 / a.p.z) = 16777216 / a.p.z := IntWalk.i64_in _ (by omega)
  have K1 := Lib.hid (fun W => floor_any (8 * c.F * a.p.x) a.p.z (by omega) (by omega) (by omega) W)
  have K2 := Lib.hid (fun W => floor_any (8 * c.F * a.p.y) a.p.z (by omega) (by omega) (by omega) W)
  clear b1 b2 b3 cF cN cW cH hp hz0
  have p2_ := P2.out.c16
  have p3_ := P3.out.c5
  have KX := Lib.hid (K1.out v2)
  go_wp2_with fail
  refine KX.out.mono ?_
  rintro e v3 ⟨rfl, bel⟩
  clear KX
  clear p2_
  clear p3_
  replace P2 := mB P2 bel
  replace P3 := mB P3 bel
  replace P4 := mB P4 bel
  replace HB := mT HB bel
  clear bel
  have p2_ := P2.out.c16
  have p3_ := P3.out.c5
  have KX := Lib.hid (K2.out v3)
  go_wp2_with fail
  refine KX.out.mono ?_
  rintro e v4 ⟨rfl, bel⟩
  clear KX
  clear p2_
  clear p3_
  replace P2 := mB P2 bel
  replace P3 := mB P3 bel
  replace P4 := mB P4 bel
  replace HB := mT HB bel
  clear bel
  go_upto_region 11 with fail
  have e0 := fun pb : BW v4 => BW.cell (P2.out.at 12 rfl) P2.out.lt pb
  have e1 := fun pb : BW v4 => BW.cell (P2.out.at 13 rfl) P2.out.lt pb
  have e2 := fun pb : BW v4 => BW.cell (P2.out.at 14 rfl) P2.out.lt pb
  have e3 := fun pb : BW v4 => BW.cell (P2.out.at 15 rfl) P2.out.lt pb
  have e4 := fun pb : BW v4 => BW.cell (P3.out.at 0 rfl) P3.out.lt pb
  have e5 := fun pb : BW v4 => BW.cell (P3.out.at 1 rfl) P3.out.lt pb
  have e6 := fun pb : BW v4 => BW.cell (P3.out.at 2 rfl) P3.out.lt pb
  have e7 := fun pb : BW v4 => BW.cell (P3.out.at 3 rfl) P3.out.lt pb
  have e8 := fun pb : BW v4 => BW.cell (P3.out.at 4 rfl) P3.out.lt pb
  refine wp_region_bw_tail 19 (by kernel_rfl) (by kernel_rfl) ?_
  simp only [List.take_succ_cons, List.take_zero, List.drop_succ_cons, List.drop_zero]
  repeat (go_big_quiet_step (fail))
  refine wpQuiet_nil ?_
  intro _ hw'
  obtain ⟨pq, hw''⟩ := hw'
  subst hw''
  clear e0 e1 e2 e3 e4 e5 e6 e7 e8
  replace P2 := mB P2 pq.h
  replace P3 := mB P3 pq.h
  replace P4 := mB P4 pq.h
  replace HB := mT HB pq.h
  generalize pq.W = v5 at *
  clear pq
  have p4_ := P4.out.f5
  go_wp2
  refine bodyPost_ret (v := .tuple #[.agg #[.int .i64 ((8 * c.F * a.p.x / a.p.z + 4 * c.W)), .int .i64 ((4 * c.H - 8 * c.F * a.p.y / a.p.z)), .int .i64 ((16777216 / a.p.z)), .int .i64 a.u, .int .i64 a.v], .int .i64 0]) (by simp [results, Tryd.results51, go_sem, *]) rfl ⟨rfl, ?_⟩
  repeat (refine Below.setCell ?_ (by first | omega | (simp; done) | (simp; omega)) _)
  exact HB.out

set_option maxRecDepth 100000 in
set_option maxHeartbeats 32000000 in
theorem area_ok (t : T3) (ht : t.Ok) (w : World) : Calls Tryd.prog 73 #[.agg #[.int .i64 t.a.x, .int .i64 t.a.y, .int .i64 t.a.d, .int .i64 t.a.u, .int .i64 t.a.v, .int .i64 t.b.x, .int .i64 t.b.y, .int .i64 t.b.d, .int .i64 t.b.u, .int .i64 t.b.v, .int .i64 t.c.x, .int .i64 t.c.y, .int .i64 t.c.d, .int .i64 t.c.u, .int .i64 t.c.v]] w fun e w' => e = .returned (.tuple #[.int .i64 t.area, .int .i64 0]) ∧ Below w.heap.size w w' := by
  have HT := Lib.hid ht
  clear ht
  obtain ⟨v0, hv0, P1, HB⟩ := lay1 w 87 #[.int .i64 t.a.x, .int .i64 t.a.y, .int .i64 t.a.d, .int .i64 t.a.u, .int .i64 t.a.v, .int .i64 t.b.x, .int .i64 t.b.y, .int .i64 t.b.d, .int .i64 t.b.u, .int .i64 t.b.v, .int .i64 t.c.x, .int .i64 t.c.y, .int .i64 t.c.d, .int .i64 t.c.u, .int .i64 t.c.v]
  go_enter Tryd.func73, Tryd.ntmps73
  go_upto_region 1 with fail
  rw [← hv0.out]
  clear hv0
  have p1_ := P1.out.c15
  go_wp2
  clear p1_
  go_loopw [11] (fun ss wr => ∃ i : Nat, i ≤ 3 ∧ ss = .int .i64 i ∧ Below w.heap.size w wr ∧ HasBlk wr w.heap.size 87 #[.int .i64 t.a.x, .int .i64 t.a.y, .int .i64 t.a.d, .int .i64 t.a.u, .int .i64 t.a.v, .int .i64 t.b.x, .int .i64 t.b.y, .int .i64 t.b.d, .int .i64 t.b.u, .int .i64 t.b.v, .int .i64 t.c.x, .int .i64 t.c.y, .int .i64 t.c.d, .int .i64 t.c.u, .int .i64 t.c.v]) (fun ss wr => 3 - (intOf ss).toNat)
  case atStart => exact ⟨0, Nat.zero_le _, rfl, HB.out, P1.out⟩
  case round =>
    clear HB P1
    obtain ⟨i, hi, rfl, hbel, hp⟩ := hrel
    have HB := Lib.hid hbel
    have P1 := Lib.hid hp
    clear hbel hp
    obtain rfl | rfl | rfl | rfl : i = 0 ∨ i = 1 ∨ i = 2 ∨ i = 3 := by omega
    · have hx := ix_spot0 t
      go_upto_region 4 with fail
      obtain ⟨u0, x5, hz, hx', S5_, bA⟩ := laidB wr 86 #[.int .i64 t.a.x, .int .i64 t.a.y, .int .i64 t.a.d, .int .i64 t.a.u, .int .i64 t.a.v]
      rw [← hz.out, ← hx'.out]
      replace P1 := mB P1 bA
      replace HB := mT HB bA
      clear hz hx' bA
      clear hx
      have s5__ := S5_.out.c5
      have KX := Lib.hid (scheck_ok t.a HT.out.1 u0)
      go_wp2_with fail
      refine KX.out.mono ?_
      rintro e u1 ⟨rfl, bel⟩
      clear KX
      clear s5__
      replace P1 := mB P1 bel
      replace S5_ := mB S5_ bel
      replace HB := mT HB bel
      clear bel
      go_wp2
      go_roundw
      case rel => exact ⟨1, by omega, by go_num, HB.out, P1.out⟩
      case measure => simp [intOf]
    · have hx := ix_spot1 t
      go_upto_region 4 with fail
      obtain ⟨u0, x5, hz, hx', S5_, bA⟩ := laidB wr 86 #[.int .i64 t.b.x, .int .i64 t.b.y, .int .i64 t.b.d, .int .i64 t.b.u, .int .i64 t.b.v]
      rw [← hz.out, ← hx'.out]
      replace P1 := mB P1 bA
      replace HB := mT HB bA
      clear hz hx' bA
      clear hx
      have s5__ := S5_.out.c5
      have KX := Lib.hid (scheck_ok t.b HT.out.2.1 u0)
      go_wp2_with fail
      refine KX.out.mono ?_
      rintro e u1 ⟨rfl, bel⟩
      clear KX
      clear s5__
      replace P1 := mB P1 bel
      replace S5_ := mB S5_ bel
      replace HB := mT HB bel
      clear bel
      go_wp2
      go_roundw
      case rel => exact ⟨2, by omega, by go_num, HB.out, P1.out⟩
      case measure => simp [intOf]
    · have hx := ix_spot2 t
      go_upto_region 4 with fail
      obtain ⟨u0, x5, hz, hx', S5_, bA⟩ := laidB wr 86 #[.int .i64 t.c.x, .int .i64 t.c.y, .int .i64 t.c.d, .int .i64 t.c.u, .int .i64 t.c.v]
      rw [← hz.out, ← hx'.out]
      replace P1 := mB P1 bA
      replace HB := mT HB bA
      clear hz hx' bA
      clear hx
      have s5__ := S5_.out.c5
      have KX := Lib.hid (scheck_ok t.c HT.out.2.2 u0)
      go_wp2_with fail
      refine KX.out.mono ?_
      rintro e u1 ⟨rfl, bel⟩
      clear KX
      clear s5__
      replace P1 := mB P1 bel
      replace S5_ := mB S5_ bel
      replace HB := mT HB bel
      clear bel
      go_wp2
      go_roundw
      case rel => exact ⟨3, by omega, by go_num, HB.out, P1.out⟩
      case measure => simp [intOf]
    · go_upto_region 8 with fail
      go_cut [7, 8, 9] (fun s7 s8 s9 wx => ∃ xa xb xc, s7 = .pointer (some ⟨xa, 0, none⟩) ∧ s8 = .pointer (some ⟨xb, 0, none⟩) ∧ s9 = .pointer (some ⟨xc, 0, none⟩) ∧ HasBlk wx xa 86 #[.int .i64 t.a.x, .int .i64 t.a.y, .int .i64 t.a.d, .int .i64 t.a.u, .int .i64 t.a.v] ∧ HasBlk wx xb 86 #[.int .i64 t.b.x, .int .i64 t.b.y, .int .i64 t.b.d, .int .i64 t.b.u, .int .i64 t.b.v] ∧ HasBlk wx xc 86 #[.int .i64 t.c.x, .int .i64 t.c.y, .int .i64 t.c.d, .int .i64 t.c.u, .int .i64 t.c.v] ∧ Below w.heap.size w wx)
      case first =>
        obtain ⟨v0, hz, bd⟩ := dr0 wr
        replace P1 := mB P1 bd
        replace HB := mT HB bd
        have HS := Lib.hid (Below.refl v0.heap.size v0)
        refine wp_region_E (Below v0.heap.size v0) 99 (by kernel_rfl) ?_
        rw [← hz.out]
        clear hz bd
        refine wpAnyE_takeA (i := 0) (v := .pointer (some ⟨w.heap.size, 0, none⟩)) rfl (by kernel_rfl) (fun _ _ _ h => h) (.inl ⟨by first | kernel_rfl | rfl, fun W hW => by go_simp⟩) HS.out ?_
        simp only [Act.put, List.setIfInBounds_toArray]
        refine wpAnyE_takeA (i := 1) (v := .agg #[.int .i64 t.a.x, .int .i64 t.a.y, .int .i64 t.a.d, .int .i64 t.a.u, .int .i64 t.a.v]) rfl (by kernel_rfl) (fun _ _ _ h => h) (.inl ⟨by first | kernel_rfl | rfl, fun W hW => ?_⟩) HS.out ?_
        · have qP1 := (P1.out.below hW).c15
          go_simp
        simp only [Act.put]
        refine wpAnyE_takeA (i := 2) (v := .pointer (some ⟨w.heap.size, 5, none⟩)) rfl (by kernel_rfl) (fun _ _ _ h => h) (.inl ⟨by first | kernel_rfl | rfl, fun W hW => by go_simp⟩) HS.out ?_
        simp only [Act.put]
        refine wpAnyE_takeA (i := 3) (v := .agg #[.int .i64 t.b.x, .int .i64 t.b.y, .int .i64 t.b.d, .int .i64 t.b.u, .int .i64 t.b.v]) rfl (by kernel_rfl) (fun _ _ _ h => h) (.inl ⟨by first | kernel_rfl | rfl, fun W hW => ?_⟩) HS.out ?_
        · have qP1 := (P1.out.below hW).c15
          go_simp
        simp only [Act.put]
        refine wpAnyE_takeA (i := 4) (v := .pointer (some ⟨w.heap.size, 10, none⟩)) rfl (by kernel_rfl) (fun _ _ _ h => h) (.inl ⟨by first | kernel_rfl | rfl, fun W hW => by go_simp⟩) HS.out ?_
        simp only [Act.put]
        refine wpAnyE_takeA (i := 5) (v := .agg #[.int .i64 t.c.x, .int .i64 t.c.y, .int .i64 t.c.d, .int .i64 t.c.u, .int .i64 t.c.v]) rfl (by kernel_rfl) (fun _ _ _ h => h) (.inl ⟨by first | kernel_rfl | rfl, fun W hW => ?_⟩) HS.out ?_
        · have qP1 := (P1.out.below hW).c15
          go_simp
        simp only [Act.put]
        apply wpAnyE_via3 (fun xa xb xc z => Hid (Below v0.heap.size v0 z) ∧ Hid (HasBlk z xa 86 #[.int .i64 0, .int .i64 0, .int .i64 0, .int .i64 0, .int .i64 0]) ∧ Hid (HasBlk z xb 86 #[.int .i64 0, .int .i64 0, .int .i64 0, .int .i64 0, .int .i64 0]) ∧ Hid (HasBlk z xc 86 #[.int .i64 0, .int .i64 0, .int .i64 0, .int .i64 0, .int .i64 0]) ∧ Hid (v0.heap.size ≤ xa) ∧ Hid (v0.heap.size ≤ xb) ∧ Hid (v0.heap.size ≤ xc) ∧ Hid (xa ≠ xb) ∧ Hid (xa ≠ xc) ∧ Hid (xb ≠ xc)) 3 #[true, true, true, true, true, true, true, true, true, false, false, false]
        · intro via
          refine wpAnyE_three (i := 6) (j := 7) (k := 8) rfl rfl rfl (by kernel_rfl) (fun KQ HK => ?_) (fun KQ HK => ?_) (fun KQ HK => ?_)
          · go_wp2
            obtain ⟨z0, xa, hz, hx', A, bel, LA, hN⟩ := allocB HS 86 #[.int .i64 0, .int .i64 0, .int .i64 0, .int .i64 0, .int .i64 0]
            clear hN
            rw [← hz.out, ← hx'.out]
            replace HS := mT HS bel
            refine HK _ _ (fun _ => HS.out) ?_
            clear HK hz hx' bel
            refine wpAnyE_two (i := 7) (j := 8) rfl rfl (by kernel_rfl) (fun KQ HK => ?_) (fun KQ HK => ?_)
            · go_wp2
              obtain ⟨z1, xb, hz, hx', B, bel, LB, hN⟩ := allocB HS 86 #[.int .i64 0, .int .i64 0, .int .i64 0, .int .i64 0, .int .i64 0]
              have NBA := hN A
              clear hN
              rw [← hz.out, ← hx'.out]
              replace A := mB A bel
              replace HS := mT HS bel
              refine HK _ _ (fun _ => HS.out) ?_
              clear HK hz hx' bel
              refine wpAnyE_step (i := 8) rfl (by kernel_rfl) (fun KQ HK => ?_)
              go_wp2
              obtain ⟨z2, xc, hz, hx', C, bel, LC, hN⟩ := allocB HS 86 #[.int .i64 0, .int .i64 0, .int .i64 0, .int .i64 0, .int .i64 0]
              have NCA := hN A
              have NCB := hN B
              clear hN
              rw [← hz.out, ← hx'.out]
              replace A := mB A bel
              replace B := mB B bel
              replace HS := mT HS bel
              refine HK _ _ (fun _ => HS.out) ?_
              clear HK hz hx' bel
              exact wpAnyE_at (by kernel_rfl) (by kernel_rfl) (by rfl) (via xa xb xc z2 ⟨HS, A, B, C, LA, LB, LC, Lib.hid (Nat.ne_of_lt NBA.out), Lib.hid (Nat.ne_of_lt NCA.out), Lib.hid (Nat.ne_of_lt NCB.out)⟩)
            · go_wp2
              obtain ⟨z1, xc, hz, hx', C, bel, LC, hN⟩ := allocB HS 86 #[.int .i64 0, .int .i64 0, .int .i64 0, .int .i64 0, .int .i64 0]
              have NCA := hN A
              clear hN
              rw [← hz.out, ← hx'.out]
              replace A := mB A bel
              replace HS := mT HS bel
              refine HK _ _ (fun _ => HS.out) ?_
              clear HK hz hx' bel
              refine wpAnyE_step (i := 7) rfl (by kernel_rfl) (fun KQ HK => ?_)
              go_wp2
              obtain ⟨z2, xb, hz, hx', B, bel, LB, hN⟩ := allocB HS 86 #[.int .i64 0, .int .i64 0, .int .i64 0, .int .i64 0, .int .i64 0]
              have NBA := hN A
              have NBC := hN C
              clear hN
              rw [← hz.out, ← hx'.out]
              replace A := mB A bel
              replace C := mB C bel
              replace HS := mT HS bel
              refine HK _ _ (fun _ => HS.out) ?_
              clear HK hz hx' bel
              exact wpAnyE_at (by kernel_rfl) (by kernel_rfl) (by rfl) (via xa xb xc z2 ⟨HS, A, B, C, LA, LB, LC, Lib.hid (Nat.ne_of_lt NBA.out), Lib.hid (Nat.ne_of_lt NCA.out), Lib.hid (Nat.ne_of_gt NBC.out)⟩)
          · go_wp2
            obtain ⟨z0, xb, hz, hx', B, bel, LB, hN⟩ := allocB HS 86 #[.int .i64 0, .int .i64 0, .int .i64 0, .int .i64 0, .int .i64 0]
            clear hN
            rw [← hz.out, ← hx'.out]
            replace HS := mT HS bel
            refine HK _ _ (fun _ => HS.out) ?_
            clear HK hz hx' bel
            refine wpAnyE_two (i := 6) (j := 8) rfl rfl (by kernel_rfl) (fun KQ HK => ?_) (fun KQ HK => ?_)
            · go_wp2
              obtain ⟨z1, xa, hz, hx', A, bel, LA, hN⟩ := allocB HS 86 #[.int .i64 0, .int .i64 0, .int .i64 0, .int .i64 0, .int .i64 0]
              have NAB := hN B
              clear hN
              rw [← hz.out, ← hx'.out]
              replace B := mB B bel
              replace HS := mT HS bel
              refine HK _ _ (fun _ => HS.out) ?_
              clear HK hz hx' bel
              refine wpAnyE_step (i := 8) rfl (by kernel_rfl) (fun KQ HK => ?_)
              go_wp2
              obtain ⟨z2, xc, hz, hx', C, bel, LC, hN⟩ := allocB HS 86 #[.int .i64 0, .int .i64 0, .int .i64 0, .int .i64 0, .int .i64 0]
              have NCB := hN B
              have NCA := hN A
              clear hN
              rw [← hz.out, ← hx'.out]
              replace B := mB B bel
              replace A := mB A bel
              replace HS := mT HS bel
              refine HK _ _ (fun _ => HS.out) ?_
              clear HK hz hx' bel
              exact wpAnyE_at (by kernel_rfl) (by kernel_rfl) (by rfl) (via xa xb xc z2 ⟨HS, A, B, C, LA, LB, LC, Lib.hid (Nat.ne_of_gt NAB.out), Lib.hid (Nat.ne_of_lt NCA.out), Lib.hid (Nat.ne_of_lt NCB.out)⟩)
            · go_wp2
              obtain ⟨z1, xc, hz, hx', C, bel, LC, hN⟩ := allocB HS 86 #[.int .i64 0, .int .i64 0, .int .i64 0, .int .i64 0, .int .i64 0]
              have NCB := hN B
              clear hN
              rw [← hz.out, ← hx'.out]
              replace B := mB B bel
              replace HS := mT HS bel
              refine HK _ _ (fun _ => HS.out) ?_
              clear HK hz hx' bel
              refine wpAnyE_step (i := 6) rfl (by kernel_rfl) (fun KQ HK => ?_)
              go_wp2
              obtain ⟨z2, xa, hz, hx', A, bel, LA, hN⟩ := allocB HS 86 #[.int .i64 0, .int .i64 0, .int .i64 0, .int .i64 0, .int .i64 0]
              have NAB := hN B
              have NAC := hN C
              clear hN
              rw [← hz.out, ← hx'.out]
              replace B := mB B bel
              replace C := mB C bel
              replace HS := mT HS bel
              refine HK _ _ (fun _ => HS.out) ?_
              clear HK hz hx' bel
              exact wpAnyE_at (by kernel_rfl) (by kernel_rfl) (by rfl) (via xa xb xc z2 ⟨HS, A, B, C, LA, LB, LC, Lib.hid (Nat.ne_of_gt NAB.out), Lib.hid (Nat.ne_of_gt NAC.out), Lib.hid (Nat.ne_of_lt NCB.out)⟩)
          · go_wp2
            obtain ⟨z0, xc, hz, hx', C, bel, LC, hN⟩ := allocB HS 86 #[.int .i64 0, .int .i64 0, .int .i64 0, .int .i64 0, .int .i64 0]
            clear hN
            rw [← hz.out, ← hx'.out]
            replace HS := mT HS bel
            refine HK _ _ (fun _ => HS.out) ?_
            clear HK hz hx' bel
            refine wpAnyE_two (i := 6) (j := 7) rfl rfl (by kernel_rfl) (fun KQ HK => ?_) (fun KQ HK => ?_)
            · go_wp2
              obtain ⟨z1, xa, hz, hx', A, bel, LA, hN⟩ := allocB HS 86 #[.int .i64 0, .int .i64 0, .int .i64 0, .int .i64 0, .int .i64 0]
              have NAC := hN C
              clear hN
              rw [← hz.out, ← hx'.out]
              replace C := mB C bel
              replace HS := mT HS bel
              refine HK _ _ (fun _ => HS.out) ?_
              clear HK hz hx' bel
              refine wpAnyE_step (i := 7) rfl (by kernel_rfl) (fun KQ HK => ?_)
              go_wp2
              obtain ⟨z2, xb, hz, hx', B, bel, LB, hN⟩ := allocB HS 86 #[.int .i64 0, .int .i64 0, .int .i64 0, .int .i64 0, .int .i64 0]
              have NBC := hN C
              have NBA := hN A
              clear hN
              rw [← hz.out, ← hx'.out]
              replace C := mB C bel
              replace A := mB A bel
              replace HS := mT HS bel
              refine HK _ _ (fun _ => HS.out) ?_
              clear HK hz hx' bel
              exact wpAnyE_at (by kernel_rfl) (by kernel_rfl) (by rfl) (via xa xb xc z2 ⟨HS, A, B, C, LA, LB, LC, Lib.hid (Nat.ne_of_lt NBA.out), Lib.hid (Nat.ne_of_gt NAC.out), Lib.hid (Nat.ne_of_gt NBC.out)⟩)
            · go_wp2
              obtain ⟨z1, xb, hz, hx', B, bel, LB, hN⟩ := allocB HS 86 #[.int .i64 0, .int .i64 0, .int .i64 0, .int .i64 0, .int .i64 0]
              have NBC := hN C
              clear hN
              rw [← hz.out, ← hx'.out]
              replace C := mB C bel
              replace HS := mT HS bel
              refine HK _ _ (fun _ => HS.out) ?_
              clear HK hz hx' bel
              refine wpAnyE_step (i := 6) rfl (by kernel_rfl) (fun KQ HK => ?_)
              go_wp2
              obtain ⟨z2, xa, hz, hx', A, bel, LA, hN⟩ := allocB HS 86 #[.int .i64 0, .int .i64 0, .int .i64 0, .int .i64 0, .int .i64 0]
              have NAC := hN C
              have NAB := hN B
              clear hN
              rw [← hz.out, ← hx'.out]
              replace C := mB C bel
              replace B := mB B bel
              replace HS := mT HS bel
              refine HK _ _ (fun _ => HS.out) ?_
              clear HK hz hx' bel
              exact wpAnyE_at (by kernel_rfl) (by kernel_rfl) (by rfl) (via xa xb xc z2 ⟨HS, A, B, C, LA, LB, LC, Lib.hid (Nat.ne_of_gt NAB.out), Lib.hid (Nat.ne_of_gt NAC.out), Lib.hid (Nat.ne_of_gt NBC.out)⟩)
        rintro xa xb xc z ⟨HS, A, B, C, LA, LB, LC, PAB, PAC, PBC⟩
        refine wpAnyE_step (i := 9) rfl (by kernel_rfl) (fun KQ HK => ?_)
        (try go_simp)
        refine wpList_storeB rfl 86 _ _ rfl _ _ _ rfl rfl (by kernel_rfl) A.out rfl (by simp [Value.oneCell']) ?_
        intro y0 hSt hgr
        replace HS := gT HS hgr LA.out
        replace A := Lib.hid hSt
        replace B := gB B hgr PAB.out
        replace C := gB C hgr PAC.out
        clear hSt hgr
        (try simp only [Act.put])
        go_wp2
        refine HK _ _ (fun _ => HS.out) ?_
        clear HK
        refine wpAnyE_step (i := 10) rfl (by kernel_rfl) (fun KQ HK => ?_)
        (try go_simp)
        refine wpList_storeB rfl 86 _ _ rfl _ _ _ rfl rfl (by kernel_rfl) B.out rfl (by simp [Value.oneCell']) ?_
        intro y1 hSt hgr
        replace HS := gT HS hgr LB.out
        replace B := Lib.hid hSt
        replace A := gB A hgr PAB.out.symm
        replace C := gB C hgr PBC.out
        clear hSt hgr
        (try simp only [Act.put])
        go_wp2
        refine HK _ _ (fun _ => HS.out) ?_
        clear HK
        refine wpAnyE_step (i := 11) rfl (by kernel_rfl) (fun KQ HK => ?_)
        (try go_simp)
        refine wpList_storeB rfl 86 _ _ rfl _ _ _ rfl rfl (by kernel_rfl) C.out rfl (by simp [Value.oneCell']) ?_
        intro y2 hSt hgr
        replace HS := gT HS hgr LC.out
        replace C := Lib.hid hSt
        replace A := gB A hgr PAC.out.symm
        replace B := gB B hgr PBC.out.symm
        clear hSt hgr
        (try simp only [Act.put])
        go_wp2
        refine HK _ _ (fun _ => HS.out) ?_
        clear HK
        have NAP1 := Lib.hid (Nat.lt_of_lt_of_le P1.out.lt LA.out)
        replace LA := Lib.hid (Nat.le_trans HB.out.size LA.out)
        have NBP1 := Lib.hid (Nat.lt_of_lt_of_le P1.out.lt LB.out)
        replace LB := Lib.hid (Nat.le_trans HB.out.size LB.out)
        have NCP1 := Lib.hid (Nat.lt_of_lt_of_le P1.out.lt LC.out)
        replace LC := Lib.hid (Nat.le_trans HB.out.size LC.out)
        replace P1 := mB P1 HS.out
        replace HB := mT HB HS.out
        clear HS
        refine wpAnyE_done (by kernel_rfl) ?_
        go_wp2_with fail
        go_meet
        exact ⟨xa, xb, xc, rfl, rfl, rfl, A.out, B.out, C.out, HB.out⟩
      case rest =>
        obtain ⟨xa, xb, xc, rfl, rfl, rfl, ha, hb, hc, hB⟩ := hcut
        have A := Lib.hid ha
        have B := Lib.hid hb
        have C := Lib.hid hc
        have HD := Lib.hid hB
        clear ha hb hc hB P1 HB
        have hs := HT.out
        unfold T3.Ok S5.Ok Wi at hs
        have pr := T3.prods HT.out
        have wa : IntKind.i64.wrap (t.b.x - t.a.x) = (t.b.x - t.a.x) := IntWalk.i64_in _ (by omega)
        have wb : IntKind.i64.wrap (t.c.y - t.a.y) = (t.c.y - t.a.y) := IntWalk.i64_in _ (by omega)
        have wc : IntKind.i64.wrap (t.c.x - t.a.x) = (t.c.x - t.a.x) := IntWalk.i64_in _ (by omega)
        have wd : IntKind.i64.wrap (t.b.y - t.a.y) = (t.b.y - t.a.y) := IntWalk.i64_in _ (by omega)
        have we : IntKind.i64.wrap ((t.b.x - t.a.x) * (t.c.y - t.a.y)) = (t.b.x - t.a.x) * (t.c.y - t.a.y) := IntWalk.i64_in _ (by omega)
        have wf : IntKind.i64.wrap ((t.c.x - t.a.x) * (t.b.y - t.a.y)) = (t.c.x - t.a.x) * (t.b.y - t.a.y) := IntWalk.i64_in _ (by omega)
        have wg : IntKind.i64.wrap ((t.b.x - t.a.x) * (t.c.y - t.a.y) - (t.c.x - t.a.x) * (t.b.y - t.a.y)) = (t.b.x - t.a.x) * (t.c.y - t.a.y) - (t.c.x - t.a.x) * (t.b.y - t.a.y) := IntWalk.i64_in _ (by omega)
        clear hs pr
        have a_ := A.out.c5
        have b_ := B.out.c5
        have c_ := C.out.c5
        go_wp2
        go_ret2
        exact ⟨rfl, HD.out⟩

set_option maxRecDepth 100000 in
set_option maxHeartbeats 16000000 in
theorem shows_ok (t : T3) (cu : Int) (ht : t.Ok) (hcu : cu = 0 ∨ cu = 1 ∨ cu = 2) (w : World) : Calls Tryd.prog 52 #[.agg #[.int .i64 t.a.x, .int .i64 t.a.y, .int .i64 t.a.d, .int .i64 t.a.u, .int .i64 t.a.v, .int .i64 t.b.x, .int .i64 t.b.y, .int .i64 t.b.d, .int .i64 t.b.u, .int .i64 t.b.v, .int .i64 t.c.x, .int .i64 t.c.y, .int .i64 t.c.d, .int .i64 t.c.u, .int .i64 t.c.v], .int .u8 cu] w fun e w' => e = .returned (.tuple #[.bool (shw t.area cu), .int .i64 0]) ∧ Below w.heap.size w w' := by
  have HT := Lib.hid ht
  clear ht
  obtain ⟨v0, hv0, P2, HB⟩ := lay1 w 87 #[.int .i64 t.a.x, .int .i64 t.a.y, .int .i64 t.a.d, .int .i64 t.a.u, .int .i64 t.a.v, .int .i64 t.b.x, .int .i64 t.b.y, .int .i64 t.b.d, .int .i64 t.b.u, .int .i64 t.b.v, .int .i64 t.c.x, .int .i64 t.c.y, .int .i64 t.c.d, .int .i64 t.c.u, .int .i64 t.c.v]
  go_enter Tryd.func52, Tryd.ntmps52
  go_upto_region 1 with fail
  rw [← hv0.out]
  clear hv0
  have p2_ := P2.out.c15
  have KX := Lib.hid (area_ok t HT.out v0)
  go_wp2_with fail
  refine KX.out.mono ?_
  rintro e v1 ⟨rfl, bel⟩
  clear KX
  clear p2_
  replace P2 := mB P2 bel
  replace HB := mT HB bel
  clear bel
  obtain ⟨n, hn⟩ : ∃ n, n = t.area := ⟨_, rfl⟩
  rw [← hn]
  have HN := Lib.hid hn
  clear hn
  obtain rfl | rfl | rfl := hcu
  · have HE := Lib.hid (show shw t.area 0 = (n != 0) by rw [← HN.out]; first | rfl | (simp only [shw]; by_cases h : n = 0 <;> simp [h]))
    go_wp2
    go_ret2
    exact ⟨by rw [HE.out]; rfl, HB.out⟩
  · have HE := Lib.hid (show shw t.area 1 = decide (0 < n) by rw [← HN.out]; first | rfl | (simp only [shw]; by_cases h : n = 0 <;> simp [h]))
    go_wp2
    go_ret2
    exact ⟨by rw [HE.out]; rfl, HB.out⟩
  · have HE := Lib.hid (show shw t.area 2 = decide (n < 0) by rw [← HN.out]; first | rfl | (simp only [shw]; by_cases h : n = 0 <;> simp [h]))
    go_wp2
    go_ret2
    exact ⟨by rw [HE.out]; rfl, HB.out⟩

set_option maxRecDepth 100000 in
set_option maxHeartbeats 32000000 in
theorem front_ok (t : T3) (ht : t.Ok) (hn : ¬ t.area = 0) (w : World) : Calls Tryd.prog 53 #[.agg #[.int .i64 t.a.x, .int .i64 t.a.y, .int .i64 t.a.d, .int .i64 t.a.u, .int .i64 t.a.v, .int .i64 t.b.x, .int .i64 t.b.y, .int .i64 t.b.d, .int .i64 t.b.u, .int .i64 t.b.v, .int .i64 t.c.x, .int .i64 t.c.y, .int .i64 t.c.d, .int .i64 t.c.u, .int .i64 t.c.v]] w fun e w' => e = .returned (.tuple #[.agg #[.int .i64 t.front.a.x, .int .i64 t.front.a.y, .int .i64 t.front.a.d, .int .i64 t.front.a.u, .int .i64 t.front.a.v, .int .i64 t.front.b.x, .int .i64 t.front.b.y, .int .i64 t.front.b.d, .int .i64 t.front.b.u, .int .i64 t.front.b.v, .int .i64 t.front.c.x, .int .i64 t.front.c.y, .int .i64 t.front.c.d, .int .i64 t.front.c.u, .int .i64 t.front.c.v], .int .i64 0]) ∧ Below w.heap.size w w' := by
  have HT := Lib.hid ht
  have HN := Lib.hid hn
  clear ht hn
  obtain ⟨v0, hv0, P1, P2, HB⟩ := lay2 w 87 #[.int .i64 t.a.x, .int .i64 t.a.y, .int .i64 t.a.d, .int .i64 t.a.u, .int .i64 t.a.v, .int .i64 t.b.x, .int .i64 t.b.y, .int .i64 t.b.d, .int .i64 t.b.u, .int .i64 t.b.v, .int .i64 t.c.x, .int .i64 t.c.y, .int .i64 t.c.d, .int .i64 t.c.u, .int .i64 t.c.v] 87 #[.int .i64 0, .int .i64 0, .int .i64 0, .int .i64 0, .int .i64 0, .int .i64 0, .int .i64 0, .int .i64 0, .int .i64 0, .int .i64 0, .int .i64 0, .int .i64 0, .int .i64 0, .int .i64 0, .int .i64 0]
  go_enter Tryd.func53, Tryd.ntmps53
  go_upto_region 1 with fail
  rw [← hv0.out]
  clear hv0
  have p1_ := P1.out.c15
  have KX := Lib.hid (area_ok t HT.out v0)
  go_wp2_with fail
  refine KX.out.mono ?_
  rintro e v1 ⟨rfl, bel⟩
  clear KX
  clear p1_
  replace P1 := mB P1 bel
  replace P2 := mB P2 bel
  replace HB := mT HB bel
  clear bel
  have hn0 := HN.out
  have HF := Lib.hid (show t.front = if t.area < 0 then ⟨t.a, t.c, t.b⟩ else t from rfl)
  generalize t.area = n at *
  have g0 : (n == 0) = false := by simp [hn0]
  by_cases hl : n < 0
  · have g1 : decide (n < 0) = true := decide_eq_true hl
    rw [if_pos hl] at HF
    clear hl hn0
    have p1_ := P1.out.f15
    have p2_ := P2.out.f15
    go_wp2
    refine bodyPost_ret (v := .tuple #[.agg #[.int .i64 t.a.x, .int .i64 t.a.y, .int .i64 t.a.d, .int .i64 t.a.u, .int .i64 t.a.v, .int .i64 t.c.x, .int .i64 t.c.y, .int .i64 t.c.d, .int .i64 t.c.u, .int .i64 t.c.v, .int .i64 t.b.x, .int .i64 t.b.y, .int .i64 t.b.d, .int .i64 t.b.u, .int .i64 t.b.v], .int .i64 0]) (by simp [results, Tryd.results53, go_sem, *]) rfl ⟨by rw [HF.out], ?_⟩
    repeat (refine Below.setCell ?_ (by first | omega | (simp; done) | (simp; omega)) _)
    exact HB.out
  have g1 : decide (n < 0) = false := decide_eq_false hl
  rw [if_neg hl] at HF
  clear hl hn0
  have p1_ := P1.out.c15
  have p2_ := P2.out.f15
  go_wp2
  refine bodyPost_ret (v := .tuple #[.agg #[.int .i64 t.a.x, .int .i64 t.a.y, .int .i64 t.a.d, .int .i64 t.a.u, .int .i64 t.a.v, .int .i64 t.b.x, .int .i64 t.b.y, .int .i64 t.b.d, .int .i64 t.b.u, .int .i64 t.b.v, .int .i64 t.c.x, .int .i64 t.c.y, .int .i64 t.c.d, .int .i64 t.c.u, .int .i64 t.c.v], .int .i64 0]) (by simp [results, Tryd.results53, go_sem, *]) rfl ⟨by rw [HF.out], ?_⟩
  repeat (refine Below.setCell ?_ (by first | omega | (simp; done) | (simp; omega)) _)
  exact HB.out
end Go.Proofs.YtemopgpcpjnmkaaDoor
