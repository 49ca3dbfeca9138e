/- top: a box's shadow. -/
import Derived.Test.YtemopgpcpjnmkaaDoorT8
namespace Go.Proofs.YtemopgpcpjnmkaaDoor
open Go.RowKit
set_option linter.unusedVariables false
theorem window_ok (c : CD) (X0 Y0 X1 Y1 : Int) (h : c.Ok) (k : WinOk c X0 Y0 X1 Y1) (w : World) : Calls Tryd.prog 8 #[.agg #[.int .i64 c.p.x, .int .i64 c.p.y, .int .i64 c.p.z, .int .i64 (c.m 0), .int .i64 (c.m 1), .int .i64 (c.m 2), .int .i64 (c.m 3), .int .i64 (c.m 4), .int .i64 (c.m 5), .int .i64 (c.m 6), .int .i64 (c.m 7), .int .i64 (c.m 8), .int .i64 c.F, .int .i64 c.N, .int .i64 c.W, .int .i64 c.H], .agg #[.int .i64 X0, .int .i64 Y0, .int .i64 X1, .int .i64 Y1]] w fun e w' => e = .returned (.int .i64 0) ∧ Below w.heap.size w w' := by
  have := window_any c X0 Y0 X1 Y1 w
  rwa [wcod_zero.2 ⟨h, k⟩] at this
theorem plo_bd {g n a b : Int} (hg : 0 ≤ g ∧ g ≤ 1024) (hn : -100000 ≤ n ∧ n ≤ 100000) (ha : 256 ≤ a) (hb : 256 ≤ b) : -102400000 ≤ plo g n a b ∧ plo g n a b ≤ 102400000 := by
  unfold plo
  have k1 : -102400000 ≤ g * n := by
    have := Int.mul_le_mul_of_nonneg_left hn.1 hg.1
    have : g * -100000 = -(g * 100000) := by rw [Int.mul_neg]
    omega
  have k2 : g * n ≤ 102400000 := by
    have := Int.mul_le_mul_of_nonneg_left hn.2 hg.1
    omega
  have hd : ∀ d : Int, 256 ≤ d → -102400000 ≤ g * n / d ∧ g * n / d ≤ 102400000 := fun d hd => by
    constructor
    · rw [Int.le_ediv_iff_mul_le (by omega)]
      have := Int.mul_le_mul_of_nonneg_left hd (show (0 : Int) ≤ 102400000 by decide)
      rw [Int.neg_mul]; omega
    · refine Int.ediv_le_of_le_mul (by omega) ?_
      have := Int.mul_le_mul_of_nonneg_left hd (show (0 : Int) ≤ 102400000 by decide)
      omega
  split <;> exact hd _ (by assumption)
theorem phi_bd {g n a b : Int} (hg : 0 ≤ g ∧ g ≤ 1024) (hn : -100000 ≤ n ∧ n ≤ 100000) (ha : 256 ≤ a) (hb : 256 ≤ b) : -102400000 ≤ phi g n a b ∧ phi g n a b ≤ 102400000 := by
  have := plo_bd hg hn hb ha
  unfold plo at this
  exact this
def CD.Cm (c : CD) : Cm := ⟨c.F, c.W, c.H⟩
theorem mul256 {k a : Int} {A : Int} (hA : 0 ≤ A) (hk : Wi k (-256) 256) (ha : Wi a (-A) A) : -(256 * A) ≤ k * a ∧ k * a ≤ 256 * A := by
  obtain ⟨h1, h2⟩ := hk
  obtain ⟨h3, h4⟩ := ha
  have e1 : k * -A = -(k * A) := Int.mul_neg _ _
  rcases Int.le_total 0 k with h | h
  · have := Int.mul_le_mul_of_nonneg_left h3 h
    have := Int.mul_le_mul_of_nonneg_left h4 h
    have := Int.mul_le_mul_of_nonneg_right h2 hA
    omega
  · have := Int.mul_le_mul_of_nonpos_left h h3
    have := Int.mul_le_mul_of_nonpos_left h h4
    have := Int.mul_le_mul_of_nonneg_right h1 hA
    have e2 : -256 * A = -(256 * A) := Int.neg_mul _ _
    omega
/-- A seen box lies within the view. -/
theorem CD.box_bd {c : CD} {b : B3} (hc : c.Ok) (hb : b.World) : (Wi (c.box b).lo.x (-24576) 24576 ∧ Wi (c.box b).hi.x (-24576) 24576) ∧ (Wi (c.box b).lo.y (-24576) 24576 ∧ Wi (c.box b).hi.y (-24576) 24576) ∧ (Wi (c.box b).lo.z (-24576) 24576 ∧ Wi (c.box b).hi.z (-24576) 24576) := by
  have X := hb
  unfold B3.World at X
  have P := hc.1.1
  unfold V3.Ok at P
  have d : ∀ {a p : Int}, Wi a (-4096) 4096 → Wi p (-4096) 4096 → Wi (a - p) (-8192) 8192 := fun h k => by unfold Wi at *; omega
  have key : ∀ q, q < 9 → ∀ {a e p : Int}, Wi a (-4096) 4096 → Wi e (-4096) 4096 → Wi p (-4096) 4096 → (-2097152 ≤ tlo (c.m q) (a - p) (e - p) ∧ tlo (c.m q) (a - p) (e - p) ≤ 2097152) ∧ (-2097152 ≤ thi (c.m q) (a - p) (e - p) ∧ thi (c.m q) (a - p) (e - p) ≤ 2097152) := fun q hq a e p ha he hp => by
    have k1 := mul256 (A := 8192) (by decide) (hc.2 q hq) (d ha hp)
    have k2 := mul256 (A := 8192) (by decide) (hc.2 q hq) (d he hp)
    unfold tlo thi
    constructor <;> split <;> omega
  have row : ∀ q, q < 3 → (Wi ((tlo (c.m (3 * q)) (b.lo.x - c.p.x) (b.hi.x - c.p.x) + tlo (c.m (3 * q + 1)) (b.lo.y - c.p.y) (b.hi.y - c.p.y) + tlo (c.m (3 * q + 2)) (b.lo.z - c.p.z) (b.hi.z - c.p.z)) / 256) (-24576) 24576) ∧ (Wi ((thi (c.m (3 * q)) (b.lo.x - c.p.x) (b.hi.x - c.p.x) + thi (c.m (3 * q + 1)) (b.lo.y - c.p.y) (b.hi.y - c.p.y) + thi (c.m (3 * q + 2)) (b.lo.z - c.p.z) (b.hi.z - c.p.z)) / 256) (-24576) 24576) := fun q hq => by
    have k1 := key (3 * q) (by omega) X.1.1 X.1.2.1 P.1
    have k2 := key (3 * q + 1) (by omega) X.2.1.1 X.2.1.2.1 P.2.1
    have k3 := key (3 * q + 2) (by omega) X.2.2.1 X.2.2.2.1 P.2.2
    unfold Wi
    omega
  have r0 := row 0 (by omega)
  have r1 := row 1 (by omega)
  have r2 := row 2 (by omega)
  exact ⟨⟨r0.1, r0.2⟩, ⟨r1.1, r1.2⟩, ⟨r2.1, r2.2⟩⟩
/-- The box in front of the near plane. -/
def CD.fbox (c : CD) (b : B3) : B3 := (c.box b).front c.N

set_option maxRecDepth 100000 in
set_option maxHeartbeats 16000000 in
theorem shadow_ok (c : CD) (b : B3) (X0 Y0 X1 Y1 : Int) (hc : c.Ok) (hb : b.World) (hv : WinOk c X0 Y0 X1 Y1) (h1 : max (c.box b).lo.z c.N ≤ (c.box b).hi.z) (h2 : max (first (shX0 c.Cm (c.fbox b))) X0 ≤ min (last (shX1 c.Cm (c.fbox b))) X1) (h3 : max (first (shY0 c.Cm (c.fbox b))) Y0 ≤ min (last (shY1 c.Cm (c.fbox b))) Y1) (w : World) (hG : GW w) : Calls Tryd.prog 9 #[.agg #[.int .i64 c.p.x, .int .i64 c.p.y, .int .i64 c.p.z, .int .i64 (c.m 0), .int .i64 (c.m 1), .int .i64 (c.m 2), .int .i64 (c.m 3), .int .i64 (c.m 4), .int .i64 (c.m 5), .int .i64 (c.m 6), .int .i64 (c.m 7), .int .i64 (c.m 8), .int .i64 c.F, .int .i64 c.N, .int .i64 c.W, .int .i64 c.H], .agg #[.int .i64 b.lo.x, .int .i64 b.lo.y, .int .i64 b.lo.z, .int .i64 b.hi.x, .int .i64 b.hi.y, .int .i64 b.hi.z], .agg #[.int .i64 X0, .int .i64 Y0, .int .i64 X1, .int .i64 Y1]] w fun e w' => e = .returned (.tuple #[.agg #[.int .i64 ((max (first (shX0 c.Cm (c.fbox b))) X0)), .int .i64 ((max (first (shY0 c.Cm (c.fbox b))) Y0)), .int .i64 ((min (last (shX1 c.Cm (c.fbox b))) X1)), .int .i64 ((min (last (shY1 c.Cm (c.fbox b))) Y1)), .int .i64 (16777216 / (c.fbox b).lo.z)], .bool true, .int .i64 0]) ∧ Below w.heap.size w w' := by
  have HC := Lib.hid hc
  have HW := Lib.hid hb
  have HV := Lib.hid hv
  have H1 := Lib.hid h1
  have H2 := Lib.hid h2
  have H3 := Lib.hid h3
  have G0 := Lib.hid hG
  clear hc hb hG hv h1 h2 h3
  obtain ⟨v0, hv0, P3, P4, P5, P6, HB⟩ := lay4 w 31 #[.int .i64 c.p.x, .int .i64 c.p.y, .int .i64 c.p.z, .int .i64 (c.m 0), .int .i64 (c.m 1), .int .i64 (c.m 2), .int .i64 (c.m 3), .int .i64 (c.m 4), .int .i64 (c.m 5), .int .i64 (c.m 6), .int .i64 (c.m 7), .int .i64 (c.m 8), .int .i64 c.F, .int .i64 c.N, .int .i64 c.W, .int .i64 c.H] 50 #[.int .i64 b.lo.x, .int .i64 b.lo.y, .int .i64 b.lo.z, .int .i64 b.hi.x, .int .i64 b.hi.y, .int .i64 b.hi.z] 33 #[.int .i64 X0, .int .i64 Y0, .int .i64 X1, .int .i64 Y1] 56 #[.int .i64 0, .int .i64 0, .int .i64 0, .int .i64 0, .int .i64 0]
  replace G0 := Lib.hid (G0.out.below HB.out)
  go_enter Tryd.func9, Tryd.ntmps9
  go_upto_region 1 with fail
  rw [← hv0.out]
  clear hv0
  have p3_ := P3.out.c16
  have p4_ := P4.out.c6
  have KX := Lib.hid (view_ok c b HC.out HW.out v0 G0.out)
  go_wp2_with fail
  refine KX.out.mono ?_
  rintro e v1 ⟨rfl, bel⟩
  clear KX
  clear p3_
  clear p4_
  replace P3 := mB P3 bel
  replace P4 := mB P4 bel
  replace P5 := mB P5 bel
  replace P6 := mB P6 bel
  replace G0 := Lib.hid (G0.out.below bel)
  replace HB := mT HB bel
  clear bel
  go_upto_region 2 with fail
  obtain ⟨v2, x9, hz, hx', P9, bA⟩ := laidB v1 50 #[.int .i64 ((c.box b).lo.x), .int .i64 ((c.box b).lo.y), .int .i64 ((c.box b).lo.z), .int .i64 ((c.box b).hi.x), .int .i64 ((c.box b).hi.y), .int .i64 ((c.box b).hi.z)]
  rw [← hz.out, ← hx'.out]
  replace P3 := mB P3 bA
  replace P4 := mB P4 bA
  replace P5 := mB P5 bA
  replace P6 := mB P6 bA
  replace G0 := Lib.hid (G0.out.below bA)
  replace HB := mT HB bA
  clear hz hx' bA
  have p3_ := P3.out.c16
  have p5_ := P5.out.c4
  have KX := Lib.hid (window_ok c X0 Y0 X1 Y1 HC.out HV.out v2)
  go_wp2_with fail
  refine KX.out.mono ?_
  rintro e v3 ⟨rfl, bel⟩
  clear KX
  clear p3_
  clear p5_
  replace P3 := mB P3 bel
  replace P4 := mB P4 bel
  replace P5 := mB P5 bel
  replace P6 := mB P6 bel
  replace P9 := mB P9 bel
  replace G0 := Lib.hid (G0.out.below bel)
  replace HB := mT HB bel
  clear bel
  go_upto_region 7 with fail
  go_cut [11, 12] (fun s11 s12 wx => s11 = .int .i64 (max (c.box b).lo.z c.N) ∧ s12 = .int .i64 (c.box b).hi.z ∧ Below v3.heap.size v3 wx)
  case first =>
    have p9_ := P9.out.c6
    have p3_ := P3.out.c16
    have hm : (c.N ≤ (c.box b).lo.z ∧ (max (c.box b).lo.z c.N) = (c.box b).lo.z) ∨ (¬ c.N ≤ (c.box b).lo.z ∧ (max (c.box b).lo.z c.N) = c.N) := by omega
    generalize (max (c.box b).lo.z c.N) = nn at *
    obtain ⟨hm, rfl⟩ | ⟨hm, rfl⟩ := hm
    · go_region
      go_wp2_with fail
      go_meet
      exact ⟨rfl, rfl, by repeat' (first | assumption | refine Below.setCell ?_ (by first | omega | (simp; done) | (simp; omega)) _ | refine Below.alloc ?_ (by first | omega | (simp; done) | (simp; omega)) _ | exact Below.refl _ _ | apply Below.drew)⟩
    · go_region
      go_wp2_with fail
      go_meet
      exact ⟨rfl, rfl, by repeat' (first | assumption | refine Below.setCell ?_ (by first | omega | (simp; done) | (simp; omega)) _ | refine Below.alloc ?_ (by first | omega | (simp; done) | (simp; omega)) _ | exact Below.refl _ _ | apply Below.drew)⟩
  case rest =>
    obtain ⟨rfl, rfl, hbel⟩ := hcut
    replace P3 := mB P3 hbel
    replace P4 := mB P4 hbel
    replace P5 := mB P5 hbel
    replace P6 := mB P6 hbel
    replace P9 := mB P9 hbel
    replace G0 := Lib.hid (G0.out.below hbel)
    replace HB := mT HB hbel
    clear hbel
    obtain ⟨nr, hnr⟩ : ∃ nr, nr = (max (c.box b).lo.z c.N) := ⟨_, rfl⟩
    rw [← hnr]
    have HN := Lib.hid hnr
    clear hnr
    have g1 : decide ((c.box b).hi.z < nr) = false := decide_eq_false (by have := H1.out; rw [HN.out]; omega)
    have bd := CD.box_bd HC.out HW.out
    have cm := HC.out
    unfold CD.Ok V3.Ok Wi at cm
    unfold Wi at bd
    have hn1 : 256 ≤ nr := by rw [HN.out]; omega
    have hn2 : nr ≤ (c.box b).hi.z := by rw [HN.out]; exact H1.out
    clear cm
    have cF := HC.out.1.2.1
    have cW := HC.out.1.2.2.2.1
    have cH := HC.out.1.2.2.2.2
    unfold Wi at cF cW cH
    have b1 := plo_bd (g := 8 * c.F) (n := (c.box b).lo.x) (a := nr) (b := (c.box b).hi.z) (by omega) (by omega) (by omega) (by omega)
    have b2 := phi_bd (g := 8 * c.F) (n := (c.box b).hi.x) (a := nr) (b := (c.box b).hi.z) (by omega) (by omega) (by omega) (by omega)
    have b3 := plo_bd (g := 8 * c.F) (n := (c.box b).lo.y) (a := nr) (b := (c.box b).hi.z) (by omega) (by omega) (by omega) (by omega)
    have b4 := phi_bd (g := 8 * c.F) (n := (c.box b).hi.y) (a := nr) (b := (c.box b).hi.z) (by omega) (by omega) (by omega) (by omega)
    have K0 := Lib.hid (fun W => plo_any (8 * c.F) (4 * c.W) nr (c.box b).hi.z (c.box b).lo.x (by omega) (by omega) (by omega) (by omega) W)
    have K1 := Lib.hid (fun W => phi_any (8 * c.F) (4 * c.W) nr (c.box b).hi.z (c.box b).hi.x (by omega) (by omega) (by omega) (by omega) W)
    have K2 := Lib.hid (fun W => plo_any (8 * c.F) (4 * c.H) nr (c.box b).hi.z (c.box b).lo.y (by omega) (by omega) (by omega) (by omega) W)
    have K3 := Lib.hid (fun W => phi_any (8 * c.F) (4 * c.H) nr (c.box b).hi.z (c.box b).hi.y (by omega) (by omega) (by omega) (by omega) W)
    have K5 := Lib.hid (fun W => pixels_any (8 * c.F) (4 * c.W) nr (c.box b).hi.z ((plo (8 * c.F) (c.box b).lo.x nr (c.box b).hi.z) + 4 * c.W) ((phi (8 * c.F) (c.box b).hi.x nr (c.box b).hi.z) + 4 * c.W) X0 X1 (by omega) (by omega) W)
    have K6 := Lib.hid (fun W => pixels_any (8 * c.F) (4 * c.H) nr (c.box b).hi.z (4 * c.H - (phi (8 * c.F) (c.box b).hi.y nr (c.box b).hi.z)) (4 * c.H - (plo (8 * c.F) (c.box b).lo.y nr (c.box b).hi.z)) Y0 Y1 (by omega) (by omega) W)
    have wW : IntKind.i64.wrap (8 * c.F) = 8 * c.F := IntWalk.i64_in _ (by omega)
    have wA : IntKind.i64.wrap (4 * c.W) = 4 * c.W := IntWalk.i64_in _ (by omega)
    have wB : IntKind.i64.wrap (4 * c.H) = 4 * c.H := IntWalk.i64_in _ (by omega)
    have w1 : IntKind.i64.wrap ((plo (8 * c.F) (c.box b).lo.x nr (c.box b).hi.z) + 4 * c.W) = ((plo (8 * c.F) (c.box b).lo.x nr (c.box b).hi.z) + 4 * c.W) := IntWalk.i64_in _ (by omega)
    have w2 : IntKind.i64.wrap ((phi (8 * c.F) (c.box b).hi.x nr (c.box b).hi.z) + 4 * c.W) = ((phi (8 * c.F) (c.box b).hi.x nr (c.box b).hi.z) + 4 * c.W) := IntWalk.i64_in _ (by omega)
    have w3 : IntKind.i64.wrap (4 * c.H - (phi (8 * c.F) (c.box b).hi.y nr (c.box b).hi.z)) = (4 * c.H - (phi (8 * c.F) (c.box b).hi.y nr (c.box b).hi.z)) := IntWalk.i64_in _ (by omega)
    have w4 : IntKind.i64.wrap (4 * c.H - (plo (8 * c.F) (c.box b).lo.y nr (c.box b).hi.z)) = (4 * c.H - (plo (8 * c.F) (c.box b).lo.y nr (c.box b).hi.z)) := IntWalk.i64_in _ (by omega)
    have HR := Lib.hid (show (max (first ((plo (8 * c.F) (c.box b).lo.x nr (c.box b).hi.z) + 4 * c.W)) X0) ≤ (min (last ((phi (8 * c.F) (c.box b).hi.x nr (c.box b).hi.z) + 4 * c.W)) X1) ∧ (max (first (4 * c.H - (phi (8 * c.F) (c.box b).hi.y nr (c.box b).hi.z))) Y0) ≤ (min (last (4 * c.H - (plo (8 * c.F) (c.box b).lo.y nr (c.box b).hi.z))) Y1) by have h2 := H2.out; have h3 := H3.out; rw [HN.out]; exact ⟨h2, h3⟩)
    clear b1 b2 b3 b4 bd cF cW cH
    have p3_ := P3.out.c16
    go_upto_region 11 with fail
    clear p3_
    obtain ⟨u1, x13, hz, hx', P13, bA⟩ := laidB wc 77 #[.int .i64 ((8 * c.F)), .int .i64 ((4 * c.W)), .int .i64 nr, .int .i64 ((c.box b).hi.z)]
    rw [← hz.out, ← hx'.out]
    replace P3 := mB P3 bA
    replace P4 := mB P4 bA
    replace P5 := mB P5 bA
    replace P6 := mB P6 bA
    replace P9 := mB P9 bA
    replace G0 := Lib.hid (G0.out.below bA)
    replace HB := mT HB bA
    clear hz hx' bA
    have p3_ := P3.out.c16
    go_upto_region 12 with fail
    clear p3_
    obtain ⟨u2, x14, hz, hx', P14, bA⟩ := laidB u1 77 #[.int .i64 ((8 * c.F)), .int .i64 ((4 * c.H)), .int .i64 nr, .int .i64 ((c.box b).hi.z)]
    rw [← hz.out, ← hx'.out]
    replace P3 := mB P3 bA
    replace P4 := mB P4 bA
    replace P5 := mB P5 bA
    replace P6 := mB P6 bA
    replace P9 := mB P9 bA
    replace P13 := mB P13 bA
    replace G0 := Lib.hid (G0.out.below bA)
    replace HB := mT HB bA
    clear hz hx' bA
    have e0 := fun pb : BW u2 => BW.cell (P13.out.at 0 rfl) P13.out.lt pb
    have e1 := fun pb : BW u2 => BW.cell (P13.out.at 1 rfl) P13.out.lt pb
    have e2 := fun pb : BW u2 => BW.cell (P13.out.at 2 rfl) P13.out.lt pb
    have e3 := fun pb : BW u2 => BW.cell (P13.out.at 3 rfl) P13.out.lt pb
    have e4 := fun pb : BW u2 => BW.cell (P9.out.at 0 rfl) P9.out.lt pb
    have e5 := fun pb : BW u2 => BW.cell (P9.out.at 1 rfl) P9.out.lt pb
    have e6 := fun pb : BW u2 => BW.cell (P9.out.at 2 rfl) P9.out.lt pb
    have e7 := fun pb : BW u2 => BW.cell (P9.out.at 3 rfl) P9.out.lt pb
    have e8 := fun pb : BW u2 => BW.cell (P9.out.at 4 rfl) P9.out.lt pb
    have e9 := fun pb : BW u2 => BW.cell (P9.out.at 5 rfl) P9.out.lt pb
    have e10 := fun pb : BW u2 => BW.cell (P5.out.at 0 rfl) P5.out.lt pb
    have e11 := fun pb : BW u2 => BW.cell (P5.out.at 1 rfl) P5.out.lt pb
    have e12 := fun pb : BW u2 => BW.cell (P5.out.at 2 rfl) P5.out.lt pb
    have e13 := fun pb : BW u2 => BW.cell (P5.out.at 3 rfl) P5.out.lt pb
    have k1 := Lib.hid (fun pb : BW u2 => BW.call (v := .int .i64 (plo (8 * c.F) (c.box b).lo.x nr (c.box b).hi.z)) (fun W' (h : Below u2.heap.size u2 W') => K0.out W') pb)
    have k2 := Lib.hid (fun pb : BW u2 => BW.call (v := .int .i64 (phi (8 * c.F) (c.box b).hi.x nr (c.box b).hi.z)) (fun W' (h : Below u2.heap.size u2 W') => K1.out W') pb)
    have k3 := Lib.hid (fun pb : BW u2 => BW.call (v := .tuple #[.int .i64 (max (first ((plo (8 * c.F) (c.box b).lo.x nr (c.box b).hi.z) + 4 * c.W)) X0), .int .i64 (min (last ((phi (8 * c.F) (c.box b).hi.x nr (c.box b).hi.z) + 4 * c.W)) X1), .bool (decide ((max (first ((plo (8 * c.F) (c.box b).lo.x nr (c.box b).hi.z) + 4 * c.W)) X0) ≤ (min (last ((phi (8 * c.F) (c.box b).hi.x nr (c.box b).hi.z) + 4 * c.W)) X1)))]) (fun W' (h : Below u2.heap.size u2 W') => K5.out W') pb)
    refine wp_region_quiet_bw (by kernel_rfl) (by kernel_rfl) ?_
    repeat (go_big_quiet_step ((first | (go_at_call 18; with_reducible exact k1.out _) | (go_at_call 18; with_reducible exact k2.out _) | (go_at_call 17; with_reducible exact k3.out _))))
    refine wpQuiet_nil ?_
    intro _ hw'
    obtain ⟨pq, hw''⟩ := hw'
    subst hw''
    clear e0 e1 e2 e3 e4 e5 e6 e7 e8 e9 e10 e11 e12 e13 k1 k2 k3
    replace P3 := mB P3 pq.h
    replace P4 := mB P4 pq.h
    replace P5 := mB P5 pq.h
    replace P6 := mB P6 pq.h
    replace P9 := mB P9 pq.h
    replace P13 := mB P13 pq.h
    replace P14 := mB P14 pq.h
    replace G0 := Lib.hid (G0.out.below pq.h)
    replace HB := mT HB pq.h
    generalize pq.W = u3 at *
    clear pq
    go_upto_region 13 with fail
    have e0 := fun pb : BW u3 => BW.cell (P14.out.at 0 rfl) P14.out.lt pb
    have e1 := fun pb : BW u3 => BW.cell (P14.out.at 1 rfl) P14.out.lt pb
    have e2 := fun pb : BW u3 => BW.cell (P14.out.at 2 rfl) P14.out.lt pb
    have e3 := fun pb : BW u3 => BW.cell (P14.out.at 3 rfl) P14.out.lt pb
    have e4 := fun pb : BW u3 => BW.cell (P9.out.at 0 rfl) P9.out.lt pb
    have e5 := fun pb : BW u3 => BW.cell (P9.out.at 1 rfl) P9.out.lt pb
    have e6 := fun pb : BW u3 => BW.cell (P9.out.at 2 rfl) P9.out.lt pb
    have e7 := fun pb : BW u3 => BW.cell (P9.out.at 3 rfl) P9.out.lt pb
    have e8 := fun pb : BW u3 => BW.cell (P9.out.at 4 rfl) P9.out.lt pb
    have e9 := fun pb : BW u3 => BW.cell (P9.out.at 5 rfl) P9.out.lt pb
    have e10 := fun pb : BW u3 => BW.cell (P5.out.at 0 rfl) P5.out.lt pb
    have e11 := fun pb : BW u3 => BW.cell (P5.out.at 1 rfl) P5.out.lt pb
    have e12 := fun pb : BW u3 => BW.cell (P5.out.at 2 rfl) P5.out.lt pb
    have e13 := fun pb : BW u3 => BW.cell (P5.out.at 3 rfl) P5.out.lt pb
    have k1 := Lib.hid (fun pb : BW u3 => BW.call (v := .int .i64 (phi (8 * c.F) (c.box b).hi.y nr (c.box b).hi.z)) (fun W' (h : Below u3.heap.size u3 W') => K3.out W') pb)
    have k2 := Lib.hid (fun pb : BW u3 => BW.call (v := .int .i64 (plo (8 * c.F) (c.box b).lo.y nr (c.box b).hi.z)) (fun W' (h : Below u3.heap.size u3 W') => K2.out W') pb)
    have k3 := Lib.hid (fun pb : BW u3 => BW.call (v := .tuple #[.int .i64 (max (first (4 * c.H - (phi (8 * c.F) (c.box b).hi.y nr (c.box b).hi.z))) Y0), .int .i64 (min (last (4 * c.H - (plo (8 * c.F) (c.box b).lo.y nr (c.box b).hi.z))) Y1), .bool (decide ((max (first (4 * c.H - (phi (8 * c.F) (c.box b).hi.y nr (c.box b).hi.z))) Y0) ≤ (min (last (4 * c.H - (plo (8 * c.F) (c.box b).lo.y nr (c.box b).hi.z))) Y1)))]) (fun W' (h : Below u3.heap.size u3 W') => K6.out W') pb)
    refine wp_region_quiet_bw (by kernel_rfl) (by kernel_rfl) ?_
    repeat (go_big_quiet_step ((first | (go_at_call 18; with_reducible exact k1.out _) | (go_at_call 18; with_reducible exact k2.out _) | (go_at_call 17; with_reducible exact k3.out _))))
    refine wpQuiet_nil ?_
    intro _ hw'
    obtain ⟨pq, hw''⟩ := hw'
    subst hw''
    clear e0 e1 e2 e3 e4 e5 e6 e7 e8 e9 e10 e11 e12 e13 k1 k2 k3
    replace P3 := mB P3 pq.h
    replace P4 := mB P4 pq.h
    replace P5 := mB P5 pq.h
    replace P6 := mB P6 pq.h
    replace P9 := mB P9 pq.h
    replace P13 := mB P13 pq.h
    replace P14 := mB P14 pq.h
    replace G0 := Lib.hid (G0.out.below pq.h)
    replace HB := mT HB pq.h
    generalize pq.W = u4 at *
    clear pq
    clear w1 w2 w3 w4 wW wA wB K0 K1 K2 K3 K5 K6
    have q1 : decide ((max (first ((plo (8 * c.F) (c.box b).lo.x nr (c.box b).hi.z) + 4 * c.W)) X0) ≤ (min (last ((phi (8 * c.F) (c.box b).hi.x nr (c.box b).hi.z) + 4 * c.W)) X1)) = true := decide_eq_true HR.out.1
    have q2 : decide ((max (first (4 * c.H - (phi (8 * c.F) (c.box b).hi.y nr (c.box b).hi.z))) Y0) ≤ (min (last (4 * c.H - (plo (8 * c.F) (c.box b).lo.y nr (c.box b).hi.z))) Y1)) = true := decide_eq_true HR.out.2
    have hd : (16777216 : Int).tdiv nr = 16777216 / nr := Int.tdiv_eq_ediv_of_nonneg (by decide)
    have hd0 : ¬ nr = 0 := by omega
    have hd1 : -9223372036854775808 ≤ 16777216 / nr ∧ 16777216 / nr ≤ 9223372036854775807 := by
      have := Int.ediv_nonneg (show (0 : Int) ≤ 16777216 by decide) (show 0 ≤ nr by omega)
      have := Int.ediv_le_self nr (show (0 : Int) ≤ 16777216 by decide)
      omega
    have hd2 : IntKind.i64.wrap (16777216 / nr) = 16777216 / nr := IntWalk.i64_in _ (by omega)
    have p6_ := P6.out.f5
    go_wp2
    refine bodyPost_ret (v := .tuple #[.agg #[.int .i64 ((max (first ((plo (8 * c.F) (c.box b).lo.x nr (c.box b).hi.z) + 4 * c.W)) X0)), .int .i64 ((max (first (4 * c.H - (phi (8 * c.F) (c.box b).hi.y nr (c.box b).hi.z))) Y0)), .int .i64 ((min (last ((phi (8 * c.F) (c.box b).hi.x nr (c.box b).hi.z) + 4 * c.W)) X1)), .int .i64 ((min (last (4 * c.H - (plo (8 * c.F) (c.box b).lo.y nr (c.box b).hi.z))) Y1)), .int .i64 (16777216 / nr)], .bool true, .int .i64 0]) (by simp [results, Tryd.results9, go_sem, *]) rfl ⟨by rw [HN.out]; rfl, ?_⟩
    repeat (refine Below.setCell ?_ (by first | omega | (simp; done) | (simp; omega)) _)
    exact HB.out
end Go.Proofs.YtemopgpcpjnmkaaDoor
