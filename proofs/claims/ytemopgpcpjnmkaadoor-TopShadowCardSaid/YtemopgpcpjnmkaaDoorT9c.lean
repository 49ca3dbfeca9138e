/- top: a box's shadow. -/
import Derived.Test.YtemopgpcpjnmkaaDoorT9
import Derived.Test.YtemopgpcpjnmkaaDoorT8c
namespace Go.Proofs.YtemopgpcpjnmkaaDoor
open Go.RowKit
set_option linter.unusedVariables false

set_option maxRecDepth 100000 in
set_option maxHeartbeats 16000000 in
theorem shadow_okc (c : CD) (b : B3) (X0 Y0 X1 Y1 : Int) (hc : c.Ok) (hb : b.World) (hv : WinOk c X0 Y0 X1 Y1) (h1 : max (c.box b).lo.z c.N ≤ (c.box b).hi.z) (h2 : max (first (shX0 c.Cm (c.fbox b))) X0 ≤ min (last (shX1 c.Cm (c.fbox b))) X1) (h3 : max (first (shY0 c.Cm (c.fbox b))) Y0 ≤ min (last (shY1 c.Cm (c.fbox b))) Y1) (w : World) (hG : GC w) : Calls Tryd.prog 9 #[.agg #[.int .i64 c.p.x, .int .i64 c.p.y, .int .i64 c.p.z, .int .i64 (c.m 0), .int .i64 (c.m 1), .int .i64 (c.m 2), .int .i64 (c.m 3), .int .i64 (c.m 4), .int .i64 (c.m 5), .int .i64 (c.m 6), .int .i64 (c.m 7), .int .i64 (c.m 8), .int .i64 c.F, .int .i64 c.N, .int .i64 c.W, .int .i64 c.H], .agg #[.int .i64 b.lo.x, .int .i64 b.lo.y, .int .i64 b.lo.z, .int .i64 b.hi.x, .int .i64 b.hi.y, .int .i64 b.hi.z], .agg #[.int .i64 X0, .int .i64 Y0, .int .i64 X1, .int .i64 Y1]] w fun e w' => e = .returned (.tuple #[.agg #[.int .i64 ((max (first (shX0 c.Cm (c.fbox b))) X0)), .int .i64 ((max (first (shY0 c.Cm (c.fbox b))) Y0)), .int .i64 ((min (last (shX1 c.Cm (c.fbox b))) X1)), .int .i64 ((min (last (shY1 c.Cm (c.fbox b))) Y1)), .int .i64 (16777216 / (c.fbox b).lo.z)], .bool true, .int .i64 0]) ∧ Below w.heap.size w w' := by
  have HC := Lib.hid hc
  have HW := Lib.hid hb
  have HV := Lib.hid hv
  have H1 := Lib.hid h1
  have H2 := Lib.hid h2
  have H3 := Lib.hid h3
  have G0 := Lib.hid hG
  clear hc hb hG hv h1 h2 h3
  obtain ⟨v0, hv0, P3, P4, P5, P6, HB⟩ := lay4 w 31 #[.int .i64 c.p.x, .int .i64 c.p.y, .int .i64 c.p.z, .int .i64 (c.m 0), .int .i64 (c.m 1), .int .i64 (c.m 2), .int .i64 (c.m 3), .int .i64 (c.m 4), .int .i64 (c.m 5), .int .i64 (c.m 6), .int .i64 (c.m 7), .int .i64 (c.m 8), .int .i64 c.F, .int .i64 c.N, .int .i64 c.W, .int .i64 c.H] 50 #[.int .i64 b.lo.x, .int .i64 b.lo.y, .int .i64 b.lo.z, .int .i64 b.hi.x, .int .i64 b.hi.y, .int .i64 b.hi.z] 33 #[.int .i64 X0, .int .i64 Y0, .int .i64 X1, .int .i64 Y1] 56 #[.int .i64 0, .int .i64 0, .int .i64 0, .int .i64 0, .int .i64 0]
  replace G0 := Lib.hid (G0.out.below HB.out)
  go_enter Tryd.func9, Tryd.ntmps9
  go_upto_region 1 with fail
  rw [← hv0.out]
  clear hv0
  have p3_ := P3.out.c16
  have p4_ := P4.out.c6
  have KX := Lib.hid (view_okc c b HC.out HW.out v0 G0.out)
  go_wp2_with fail
  refine KX.out.mono ?_
  rintro e v1 ⟨rfl, bel⟩
  clear KX
  clear p3_
  clear p4_
  replace P3 := mB P3 bel
  replace P4 := mB P4 bel
  replace P5 := mB P5 bel
  replace P6 := mB P6 bel
  replace G0 := Lib.hid (G0.out.below bel)
  replace HB := mT HB bel
  clear bel
  go_upto_region 2 with fail
  obtain ⟨v2, x9, hz, hx', P9, bA⟩ := laidB v1 50 #[.int .i64 ((c.box b).lo.x), .int .i64 ((c.box b).lo.y), .int .i64 ((c.box b).lo.z), .int .i64 ((c.box b).hi.x), .int .i64 ((c.box b).hi.y), .int .i64 ((c.box b).hi.z)]
  rw [← hz.out, ← hx'.out]
  replace P3 := mB P3 bA
  replace P4 := mB P4 bA
  replace P5 := mB P5 bA
  replace P6 := mB P6 bA
  replace G0 := Lib.hid (G0.out.below bA)
  replace HB := mT HB bA
  clear hz hx' bA
  have p3_ := P3.out.c16
  have p5_ := P5.out.c4
  have KX := Lib.hid (window_ok c X0 Y0 X1 Y1 HC.out HV.out v2)
  go_wp2_with fail
  refine KX.out.mono ?_
  rintro e v3 ⟨rfl, bel⟩
  clear KX
  clear p3_
  clear p5_
  replace P3 := mB P3 bel
  replace P4 := mB P4 bel
  replace P5 := mB P5 bel
  replace P6 := mB P6 bel
  replace P9 := mB P9 bel
  replace G0 := Lib.hid (G0.out.below bel)
  replace HB := mT HB bel
  clear bel
  go_upto_region 7 with fail
  go_cut [11, 12] (fun s11 s12 wx => s11 = .int .i64 (max (c.box b).lo.z c.N) ∧ s12 = .int .i64 (c.box b).hi.z ∧ Below v3.heap.size v3 wx)
  case first =>
    have p9_ := P9.out.c6
    have p3_ := P3.out.c16
    have hm : (c.N ≤ (c.box b).lo.z ∧ (max (c.box b).lo.z c.N) = (c.box b).lo.z) ∨ (¬ c.N ≤ (c.box b).lo.z ∧ (max (c.box b).lo.z c.N) = c.N) := by omega
    generalize (max (c.box b).lo.z c.N) = nn at *
    obtain ⟨hm, rfl⟩ | ⟨hm, rfl⟩ := hm
    · go_region
      go_wp2_with fail
      go_meet
      exact ⟨rfl, rfl, by repeat' (first | assumption | refine Below.setCell ?_ (by first | omega | (simp; done) | (simp; omega)) _ | refine Below.alloc ?_ (by first | omega | (simp; done) | (simp; omega)) _ | exact Below.refl _ _ | apply Below.drew)⟩
    · go_region
      go_wp2_with fail
      go_meet
      exact ⟨rfl, rfl, by repeat' (first | assumption | refine Below.setCell ?_ (by first | omega | (simp; done) | (simp; omega)) _ | refine Below.alloc ?_ (by first | omega | (simp; done) | (simp; omega)) _ | exact Below.refl _ _ | apply Below.drew)⟩
  case rest =>
    obtain ⟨rfl, rfl, hbel⟩ := hcut
    replace P3 := mB P3 hbel
    replace P4 := mB P4 hbel
    replace P5 := mB P5 hbel
    replace P6 := mB P6 hbel
    replace P9 := mB P9 hbel
    replace G0 := Lib.hid (G0.out.below hbel)
    replace HB := mT HB hbel
    clear hbel
    obtain ⟨nr, hnr⟩ : ∃ nr, nr = (max (c.box b).lo.z c.N) := ⟨_, rfl⟩
    rw [← hnr]
    have HN := Lib.hid hnr
    clear hnr
    have g1 : decide ((c.box b).hi.z < nr) = false := decide_eq_false (by have := H1.out; rw [HN.out]; omega)
    have bd := CD.box_bd HC.out HW.out
    have cm := HC.out
    unfold CD.Ok V3.Ok Wi at cm
    unfold Wi at bd
    have hn1 : 256 ≤ nr := by rw [HN.out]; omega
    have hn2 : nr ≤ (c.box b).hi.z := by rw [HN.out]; exact H1.out
    clear cm
    have cF := HC.out.1.2.1
    have cW := HC.out.1.2.2.2.1
    have cH := HC.out.1.2.2.2.2
    unfold Wi at cF cW cH
    have b1 := plo_bd (g := 8 * c.F) (n := (c.box b).lo.x) (a := nr) (b := (c.box b).hi.z) (by omega) (by omega) (by omega) (by omega)
    have b2 := phi_bd (g := 8 * c.F) (n := (c.box b).hi.x) (a := nr) (b := (c.box b).hi.z) (by omega) (by omega) (by omega) (by omega)
    have b3 := plo_bd (g := 8 * c.F) (n := (c.box b).lo.y) (a := nr) (b := (c.box b).hi.z) (by omega) (by omega) (by omega) (by omega)
    have b4 := phi_bd (g := 8 * c.F) (n := (c.box b).hi.y) (a := nr) (b := (c.box b).hi.z) (by omega) (by omega) (by omega) (by omega)
    have K0 := Lib.hid (fun W => plo_any (8 * c.F) (4 * c.W) nr (c.box b).hi.z (c.box b).lo.x (by omega) (by omega) (by omega) (by omega) W)
    have K1 := Lib.hid (fun W => phi_any (8 * c.F) (4 * c.W) nr (c.box b).hi.z (c.box b).hi.x (by omega) (by omega) (by omega) (by omega) W)
    have K2 := Lib.hid (fun W => plo_any (8 * c.F) (4 * c.H) nr (c.box b).hi.z (c.box b).lo.y (by omega) (by omega) (by omega) (by omega) W)
    have K3 := Lib.hid (fun W => phi_any (8 * c.F) (4 * c.H) nr (c.box b).hi.z (c.box b).hi.y (by omega) (by omega) (by omega) (by omega) W)
    have K5 := Lib.hid (fun W => pixels_any (8 * c.F) (4 * c.W) nr (c.box b).hi.z ((plo (8 * c.F) (c.box b).lo.x nr (c.box b).hi.z) + 4 * c.W) ((phi (8 * c.F) (c.box b).hi.x nr (c.box b).hi.z) + 4 * c.W) X0 X1 (by omega) (by omega) W)
    have K6 := Lib.hid (fun W => pixels_any (8 * c.F) (4 * c.H) nr (c.box b).hi.z (4 * c.H - (phi (8 * c.F) (c.box b).hi.y nr (c.box b).hi.z)) (4 * c.H - (plo (8 * c.F) (c.box b).lo.y nr (c.box b).hi.z)) Y0 Y1 (by omega) (by omega) W)
    have wW : IntKind.i64.wrap (8 * c.F) = 8 * c.F := IntWalk.i64_in _ (by omega)
    have wA : IntKind.i64.wrap (4 * c.W) = 4 * c.W := IntWalk.i64_in _ (by omega)
    have wB : IntKind.i64.wrap (4 * c.H) = 4 * c.H := IntWalk.i64_in _ (by omega)
    have w1 : IntKind.i64.wrap ((plo (8 * c.F) (c.box b).lo.x nr (c.box b).hi.z) + 4 * c.W) = ((plo (8 * c.F) (c.box b).lo.x nr (c.box b).hi.z) + 4 * c.W) := IntWalk.i64_in _ (by omega)
    have w2 : IntKind.i64.wrap ((phi (8 * c.F) (c.box b).hi.x nr (c.box b).hi.z) + 4 * c.W) = ((phi (8 * c.F) (c.box b).hi.x nr (c.box b).hi.z) + 4 * c.W) := IntWalk.i64_in _ (by omega)
    have w3 : IntKind.i64.wrap (4 * c.H - (phi (8 * c.F) (c.box b).hi.y nr (c.box b).hi.z)) = (4 * c.H - (phi (8 * c.F) (c.box b).hi.y nr (c.box b).hi.z)) := IntWalk.i64_in _ (by omega)
    have w4 : IntKind.i64.wrap (4 * c.H - (plo (8 * c.F) (c.box b).lo.y nr (c.box b).hi.z)) = (4 * c.H - (plo (8 * c.F) (c.box b).lo.y nr (c.box b).hi.z)) := IntWalk.i64_in _ (by omega)
    have HR := Lib.hid (show (max (first ((plo (8 * c.F) (c.box b).lo.x nr (c.box b).hi.z) + 4 * c.W)) X0) ≤ (min (last ((phi (8 * c.F) (c.box b).hi.x nr (c.box b).hi.z) + 4 * c.W)) X1) ∧ (max (first (4 * c.H - (phi (8 * c.F) (c.box b).hi.y nr (c.box b).hi.z))) Y0) ≤ (min (last (4 * c.H - (plo (8 * c.F) (c.box b).lo.y nr (c.box b).hi.z))) Y1) by have h2 := H2.out; have h3 := H3.out; rw [HN.out]; exact ⟨h2, h3⟩)
    clear b1 b2 b3 b4 bd cF cW cH
    have p3_ := P3.out.c16
    go_upto_region 11 with fail
    clear p3_
    obtain ⟨u1, x13, hz, hx', P13, bA⟩ := laidB wc 77 #[.int .i64 ((8 * c.F)), .int .i64 ((4 * c.W)), .int .i64 nr, .int .i64 ((c.box b).hi.z)]
    rw [← hz.out, ← hx'.out]
    replace P3 := mB P3 bA
    replace P4 := mB P4 bA
    replace P5 := mB P5 bA
    replace P6 := mB P6 bA
    replace P9 := mB P9 bA
    replace G0 := Lib.hid (G0.out.below bA)
    replace HB := mT HB bA
    clear hz hx' bA
    have p3_ := P3.out.c16
    go_upto_region 12 with fail
    clear p3_
    obtain ⟨u2, x14, hz, hx', P14, bA⟩ := laidB u1 77 #[.int .i64 ((8 * c.F)), .int .i64 ((4 * c.H)), .int .i64 nr, .int .i64 ((c.box b).hi.z)]
    rw [← hz.out, ← hx'.out]
    replace P3 := mB P3 bA
    replace P4 := mB P4 bA
    replace P5 := mB P5 bA
    replace P6 := mB P6 bA
    replace P9 := mB P9 bA
    replace P13 := mB P13 bA
    replace G0 := Lib.hid (G0.out.below bA)
    replace HB := mT HB bA
    clear hz hx' bA
    have e0 := fun pb : BW u2 => BW.cell (P13.out.at 0 rfl) P13.out.lt pb
    have e1 := fun pb : BW u2 => BW.cell (P13.out.at 1 rfl) P13.out.lt pb
    have e2 := fun pb : BW u2 => BW.cell (P13.out.at 2 rfl) P13.out.lt pb
    have e3 := fun pb : BW u2 => BW.cell (P13.out.at 3 rfl) P13.out.lt pb
    have e4 := fun pb : BW u2 => BW.cell (P9.out.at 0 rfl) P9.out.lt pb
    have e5 := fun pb : BW u2 => BW.cell (P9.out.at 1 rfl) P9.out.lt pb
    have e6 := fun pb : BW u2 => BW.cell (P9.out.at 2 rfl) P9.out.lt pb
    have e7 := fun pb : BW u2 => BW.cell (P9.out.at 3 rfl) P9.out.lt pb
    have e8 := fun pb : BW u2 => BW.cell (P9.out.at 4 rfl) P9.out.lt pb
    have e9 := fun pb : BW u2 => BW.cell (P9.out.at 5 rfl) P9.out.lt pb
    have e10 := fun pb : BW u2 => BW.cell (P5.out.at 0 rfl) P5.out.lt pb
    have e11 := fun pb : BW u2 => BW.cell (P5.out.at 1 rfl) P5.out.lt pb
    have e12 := fun pb : BW u2 => BW.cell (P5.out.at 2 rfl) P5.out.lt pb
    have e13 := fun pb : BW u2 => BW.cell (P5.out.at 3 rfl) P5.out.lt pb
    have k1 := Lib.hid (fun pb : BW u2 => BW.call (v := .int .i64 (plo (8 * c.F) (c.box b).lo.x nr (c.box b).hi.z)) (fun W' (h : Below u2.heap.size u2 W') => K0.out W') pb)
    have k2 := Lib.hid (fun pb : BW u2 => BW.call (v := .int .i64 (phi (8 * c.F) (c.box b).hi.x nr (c.box b).hi.z)) (fun W' (h : Below u2.heap.size u2 W') => K1.out W') pb)
    have k3 := Lib.hid (fun pb : BW u2 => BW.call (v := .tuple #[.int .i64 (max (first ((plo (8 * c.F) (c.box b).lo.x nr (c.box b).hi.z) + 4 * c.W)) X0), .int .i64 (min (last ((phi (8 * c.F) (c.box b).hi.x nr (c.box b).hi.z) + 4 * c.W)) X1), .bool (decide ((max (first ((plo (8 * c.F) (c.box b).lo.x nr (c.box b).hi.z) + 4 * c.W)) X0) ≤ (min (last ((phi (8 * c.F) (c.box b).hi.x nr (c.box b).hi.z) + 4 * c.W)) X1)))]) (fun W' (h : Below u2.heap.size u2 W') => K5.out W') pb)
    refine wp_region_quiet_bw (by kernel_rfl) (by kernel_rfl) ?_
    repeat (go_big_quiet_step ((first | (go_at_call 18; with_reducible exact k1.out _) | (go_at_call 18; with_reducible exact k2.out _) | (go_at_call 17; with_reducible exact k3.out _))))
    refine wpQuiet_nil ?_
    intro _ hw'
    obtain ⟨pq, hw''⟩ := hw'
    subst hw''
    clear e0 e1 e2 e3 e4 e5 e6 e7 e8 e9 e10 e11 e12 e13 k1 k2 k3
    replace P3 := mB P3 pq.h
    replace P4 := mB P4 pq.h
    replace P5 := mB P5 pq.h
    replace P6 := mB P6 pq.h
    replace P9 := mB P9 pq.h
    replace P13 := mB P13 pq.h
    replace P14 := mB P14 pq.h
    replace G0 := Lib.hid (G0.out.below pq.h)
    replace HB := mT HB pq.h
    generalize pq.W = u3 at *
    clear pq
    go_upto_region 13 with fail
    have e0 := fun pb : BW u3 => BW.cell (P14.out.at 0 rfl) P14.out.lt pb
    have e1 := fun pb : BW u3 => BW.cell (P14.out.at 1 rfl) P14.out.lt pb
    have e2 := fun pb : BW u3 => BW.cell (P14.out.at 2 rfl) P14.out.lt pb
    have e3 := fun pb : BW u3 => BW.cell (P14.out.at 3 rfl) P14.out.lt pb
    have e4 := fun pb : BW u3 => BW.cell (P9.out.at 0 rfl) P9.out.lt pb
    have e5 := fun pb : BW u3 => BW.cell (P9.out.at 1 rfl) P9.out.lt pb
    have e6 := fun pb : BW u3 => BW.cell (P9.out.at 2 rfl) P9.out.lt pb
    have e7 := fun pb : BW u3 => BW.cell (P9.out.at 3 rfl) P9.out.lt pb
    have e8 := fun pb : BW u3 => BW.cell (P9.out.at 4 rfl) P9.out.lt pb
    have e9 := fun pb : BW u3 => BW.cell (P9.out.at 5 rfl) P9.out.lt pb
    have e10 := fun pb : BW u3 => BW.cell (P5.out.at 0 rfl) P5.out.lt pb
    have e11 := fun pb : BW u3 => BW.cell (P5.out.at 1 rfl) P5.out.lt pb
    have e12 := fun pb : BW u3 => BW.cell (P5.out.at 2 rfl) P5.out.lt pb
    have e13 := fun pb : BW u3 => BW.cell (P5.out.at 3 rfl) P5.out.lt pb
    have k1 := Lib.hid (fun pb : BW u3 => BW.call (v := .int .i64 (phi (8 * c.F) (c.box b).hi.y nr (c.box b).hi.z)) (fun W' (h : Below u3.heap.size u3 W') => K3.out W') pb)
    have k2 := Lib.hid (fun pb : BW u3 => BW.call (v := .int .i64 (plo (8 * c.F) (c.box b).lo.y nr (c.box b).hi.z)) (fun W' (h : Below u3.heap.size u3 W') => K2.out W') pb)
    have k3 := Lib.hid (fun pb : BW u3 => BW.call (v := .tuple #[.int .i64 (max (first (4 * c.H - (phi (8 * c.F) (c.box b).hi.y nr (c.box b).hi.z))) Y0), .int .i64 (min (last (4 * c.H - (plo (8 * c.F) (c.box b).lo.y nr (c.box b).hi.z))) Y1), .bool (decide ((max (first (4 * c.H - (phi (8 * c.F) (c.box b).hi.y nr (c.box b).hi.z))) Y0) ≤ (min (last (4 * c.H - (plo (8 * c.F) (c.box b).lo.y nr (c.box b).hi.z))) Y1)))]) (fun W' (h : Below u3.heap.size u3 W') => K6.out W') pb)
    refine wp_region_quiet_bw (by kernel_rfl) (by kernel_rfl) ?_
    repeat (go_big_quiet_step ((first | (go_at_call 18; with_reducible exact k1.out _) | (go_at_call 18; with_reducible exact k2.out _) | (go_at_call 17; with_reducible exact k3.out _))))
    refine wpQuiet_nil ?_
    intro _ hw'
    obtain ⟨pq, hw''⟩ := hw'
    subst hw''
    clear e0 e1 e2 e3 e4 e5 e6 e7 e8 e9 e10 e11 e12 e13 k1 k2 k3
    replace P3 := mB P3 pq.h
    replace P4 := mB P4 pq.h
    replace P5 := mB P5 pq.h
    replace P6 := mB P6 pq.h
    replace P9 := mB P9 pq.h
    replace P13 := mB P13 pq.h
    replace P14 := mB P14 pq.h
    replace G0 := Lib.hid (G0.out.below pq.h)
    replace HB := mT HB pq.h
    generalize pq.W = u4 at *
    clear pq
    clear w1 w2 w3 w4 wW wA wB K0 K1 K2 K3 K5 K6
    have q1 : decide ((max (first ((plo (8 * c.F) (c.box b).lo.x nr (c.box b).hi.z) + 4 * c.W)) X0) ≤ (min (last ((phi (8 * c.F) (c.box b).hi.x nr (c.box b).hi.z) + 4 * c.W)) X1)) = true := decide_eq_true HR.out.1
    have q2 : decide ((max (first (4 * c.H - (phi (8 * c.F) (c.box b).hi.y nr (c.box b).hi.z))) Y0) ≤ (min (last (4 * c.H - (plo (8 * c.F) (c.box b).lo.y nr (c.box b).hi.z))) Y1)) = true := decide_eq_true HR.out.2
    have hd : (16777216 : Int).tdiv nr = 16777216 / nr := Int.tdiv_eq_ediv_of_nonneg (by decide)
    have hd0 : ¬ nr = 0 := by omega
    have hd1 : -9223372036854775808 ≤ 16777216 / nr ∧ 16777216 / nr ≤ 9223372036854775807 := by
      have := Int.ediv_nonneg (show (0 : Int) ≤ 16777216 by decide) (show 0 ≤ nr by omega)
      have := Int.ediv_le_self nr (show (0 : Int) ≤ 16777216 by decide)
      omega
    have hd2 : IntKind.i64.wrap (16777216 / nr) = 16777216 / nr := IntWalk.i64_in _ (by omega)
    have p6_ := P6.out.f5
    go_wp2
    refine bodyPost_ret (v := .tuple #[.agg #[.int .i64 ((max (first ((plo (8 * c.F) (c.box b).lo.x nr (c.box b).hi.z) + 4 * c.W)) X0)), .int .i64 ((max (first (4 * c.H - (phi (8 * c.F) (c.box b).hi.y nr (c.box b).hi.z))) Y0)), .int .i64 ((min (last ((phi (8 * c.F) (c.box b).hi.x nr (c.box b).hi.z) + 4 * c.W)) X1)), .int .i64 ((min (last (4 * c.H - (plo (8 * c.F) (c.box b).lo.y nr (c.box b).hi.z))) Y1)), .int .i64 (16777216 / nr)], .bool true, .int .i64 0]) (by simp [results, Tryd.results9, go_sem, *]) rfl ⟨by rw [HN.out]; rfl, ?_⟩
    repeat (refine Below.setCell ?_ (by first | omega | (simp; done) | (simp; omega)) _)
    exact HB.out
end Go.Proofs.YtemopgpcpjnmkaaDoor
