/- top: a point as a camera sees it: vec.Turn, camera.View. -/
import Derived.Test.YtemopgpcpjnmkaaDoorT10
namespace Go.Proofs.YtemopgpcpjnmkaaDoor
open Go.RowKit
set_option linter.unusedVariables false
theorem vcheck_ok (v : V3) (h : v.Ok) (w : World) : Calls Tryd.prog 23 #[.agg #[.int .i64 v.x, .int .i64 v.y, .int .i64 v.z]] w fun e w' => e = .returned (.int .i64 0) ∧ Below w.heap.size w w' := by
  have := vcheck_any v w
  rwa [cod_yes h] at this
/-- A point as a camera sees it. -/
def CD.view (c : CD) (v : V3) : V3 := c.M3.turn (v.less c.p)

set_option maxRecDepth 100000 in
set_option maxHeartbeats 16000000 in
theorem Turn_ok (m : Nat → Int) (x y z : Int) (hm : ∀ q, q < 9 → Wi (m q) (-256) 256) (hx : Wi x (-8192) 8192 ∧ Wi y (-8192) 8192 ∧ Wi z (-8192) 8192) (w : World) : Calls Tryd.prog 69 #[.agg #[.int .i64 (m 0), .int .i64 (m 1), .int .i64 (m 2), .int .i64 (m 3), .int .i64 (m 4), .int .i64 (m 5), .int .i64 (m 6), .int .i64 (m 7), .int .i64 (m 8)], .agg #[.int .i64 x, .int .i64 y, .int .i64 z]] w fun e w' => e = .returned (.tuple #[.agg #[.int .i64 ((m 0 * x + m 1 * y + m 2 * z) / 256), .int .i64 ((m 3 * x + m 4 * y + m 5 * z) / 256), .int .i64 ((m 6 * x + m 7 * y + m 8 * z) / 256)], .int .i64 0]) ∧ Below w.heap.size w w' := by
  have HM := Lib.hid hm
  have HX := Lib.hid hx
  clear hm hx
  obtain ⟨v0, hv0, P2, P3, P4, HB⟩ := lay3 w 29 #[.int .i64 (m 0), .int .i64 (m 1), .int .i64 (m 2), .int .i64 (m 3), .int .i64 (m 4), .int .i64 (m 5), .int .i64 (m 6), .int .i64 (m 7), .int .i64 (m 8)] 27 #[.int .i64 x, .int .i64 y, .int .i64 z] 27 #[.int .i64 0, .int .i64 0, .int .i64 0]
  go_enter Tryd.func69, Tryd.ntmps69
  go_upto_region 1 with fail
  rw [← hv0.out]
  clear hv0
  have p2_ := P2.out.c9
  have KX := Lib.hid (rows_ok m HM.out v0)
  go_wp2_with fail
  refine KX.out.mono ?_
  rintro e v1 ⟨rfl, bel⟩
  clear KX
  clear p2_
  replace P2 := mB P2 bel
  replace P3 := mB P3 bel
  replace P4 := mB P4 bel
  replace HB := mT HB bel
  clear bel
  have p2_ := P2.out.c9
  have p3_ := P3.out.c3
  go_wp2_with fail
  clear p2_
  clear p3_
  refine (in_blk3 32768 (by omega) v1.heap.size 3 x y z (by have h := HX.out; unfold Wi at *; omega) (v1.alloc (.cells #[.int .i64 x, .int .i64 y, .int .i64 z] 3)) (hasBlk_new v1 3 #[.int .i64 x, .int .i64 y, .int .i64 z])).mono ?_
  rintro e v2 ⟨rfl, bel⟩
  have bel2 := ((Below.refl v1.heap.size v1).alloc (Nat.le_refl _) (.cells #[.int .i64 x, .int .i64 y, .int .i64 z] 3)).trans (bel.mono (by simp))
  clear bel
  replace P2 := mB P2 bel2
  replace P3 := mB P3 bel2
  replace P4 := mB P4 bel2
  replace HB := mT HB bel2
  clear bel2
  go_upto_region 3 with fail
  have e0 := fun pb : BW v2 => BW.cell (P2.out.at 0 rfl) P2.out.lt pb
  have e1 := fun pb : BW v2 => BW.cell (P2.out.at 1 rfl) P2.out.lt pb
  have e2 := fun pb : BW v2 => BW.cell (P2.out.at 2 rfl) P2.out.lt pb
  have e3 := fun pb : BW v2 => BW.cell (P2.out.at 3 rfl) P2.out.lt pb
  have e4 := fun pb : BW v2 => BW.cell (P2.out.at 4 rfl) P2.out.lt pb
  have e5 := fun pb : BW v2 => BW.cell (P2.out.at 5 rfl) P2.out.lt pb
  have e6 := fun pb : BW v2 => BW.cell (P2.out.at 6 rfl) P2.out.lt pb
  have e7 := fun pb : BW v2 => BW.cell (P2.out.at 7 rfl) P2.out.lt pb
  have e8 := fun pb : BW v2 => BW.cell (P2.out.at 8 rfl) P2.out.lt pb
  have e9 := fun pb : BW v2 => BW.cell (P3.out.at 0 rfl) P3.out.lt pb
  have e10 := fun pb : BW v2 => BW.cell (P3.out.at 1 rfl) P3.out.lt pb
  have e11 := fun pb : BW v2 => BW.cell (P3.out.at 2 rfl) P3.out.lt pb
  have k1 := Lib.hid (fun pb : BW v2 => BW.call (v := .agg #[.int .i64 x, .int .i64 y, .int .i64 z]) (fun W' (h : Below v2.heap.size v2 W') => list_any x y z W') pb)
  have k2 := Lib.hid (fun pb : BW v2 => BW.call (v := .agg #[.int .i64 ((m 0 * x + m 1 * y + m 2 * z) / 256), .int .i64 ((m 3 * x + m 4 * y + m 5 * z) / 256), .int .i64 ((m 6 * x + m 7 * y + m 8 * z) / 256)]) (fun W' (h : Below v2.heap.size v2 W') => vturn_ok m x y z HM.out HX.out W') pb)
  have k3 := Lib.hid (fun pb : BW v2 => BW.call (v := .agg #[.int .i64 ((m 0 * x + m 1 * y + m 2 * z) / 256), .int .i64 ((m 3 * x + m 4 * y + m 5 * z) / 256), .int .i64 ((m 6 * x + m 7 * y + m 8 * z) / 256)]) (fun W' (h : Below v2.heap.size v2 W') => point_any ((m 0 * x + m 1 * y + m 2 * z) / 256) ((m 3 * x + m 4 * y + m 5 * z) / 256) ((m 6 * x + m 7 * y + m 8 * z) / 256) W') pb)
  refine wp_region_bw_tail 5 (by kernel_rfl) (by kernel_rfl) ?_
  simp only [List.take_succ_cons, List.take_zero, List.drop_succ_cons, List.drop_zero]
  repeat (go_big_quiet_step ((first | (go_at_call 79; with_reducible exact k1.out _) | (go_at_call 78; with_reducible exact k2.out _) | (go_at_call 77; with_reducible exact k3.out _))))
  refine wpQuiet_nil ?_
  intro _ hw'
  obtain ⟨pq, hw''⟩ := hw'
  subst hw''
  clear e0 e1 e2 e3 e4 e5 e6 e7 e8 e9 e10 e11 k1 k2 k3
  replace P2 := mB P2 pq.h
  replace P3 := mB P3 pq.h
  replace P4 := mB P4 pq.h
  replace HB := mT HB pq.h
  generalize pq.W = v3 at *
  clear pq
  have p4_ := P4.out.f3
  go_wp2
  refine bodyPost_ret (v := .tuple #[.agg #[.int .i64 ((m 0 * x + m 1 * y + m 2 * z) / 256), .int .i64 ((m 3 * x + m 4 * y + m 5 * z) / 256), .int .i64 ((m 6 * x + m 7 * y + m 8 * z) / 256)], .int .i64 0]) (by simp [results, Tryd.results69, go_sem, *]) rfl ⟨rfl, ?_⟩
  repeat (refine Below.setCell ?_ (by first | omega | (simp; done) | (simp; omega)) _)
  exact HB.out

set_option maxRecDepth 100000 in
set_option maxHeartbeats 16000000 in
theorem cview_ok (c : CD) (v : V3) (hc : c.Ok) (hv : v.Ok) (w : World) : Calls Tryd.prog 49 #[.agg #[.int .i64 c.p.x, .int .i64 c.p.y, .int .i64 c.p.z, .int .i64 (c.m 0), .int .i64 (c.m 1), .int .i64 (c.m 2), .int .i64 (c.m 3), .int .i64 (c.m 4), .int .i64 (c.m 5), .int .i64 (c.m 6), .int .i64 (c.m 7), .int .i64 (c.m 8), .int .i64 c.F, .int .i64 c.N, .int .i64 c.W, .int .i64 c.H], .agg #[.int .i64 v.x, .int .i64 v.y, .int .i64 v.z]] w fun e w' => e = .returned (.tuple #[.agg #[.int .i64 ((c.view v).x), .int .i64 ((c.view v).y), .int .i64 ((c.view v).z)], .int .i64 0]) ∧ Below w.heap.size w w' := by
  have HC := Lib.hid hc
  have HV := Lib.hid hv
  clear hc hv
  obtain ⟨v0, hv0, P2, P3, P4, HB⟩ := lay3 w 31 #[.int .i64 c.p.x, .int .i64 c.p.y, .int .i64 c.p.z, .int .i64 (c.m 0), .int .i64 (c.m 1), .int .i64 (c.m 2), .int .i64 (c.m 3), .int .i64 (c.m 4), .int .i64 (c.m 5), .int .i64 (c.m 6), .int .i64 (c.m 7), .int .i64 (c.m 8), .int .i64 c.F, .int .i64 c.N, .int .i64 c.W, .int .i64 c.H] 27 #[.int .i64 v.x, .int .i64 v.y, .int .i64 v.z] 27 #[.int .i64 0, .int .i64 0, .int .i64 0]
  go_enter Tryd.func49, Tryd.ntmps49
  go_upto_region 1 with fail
  rw [← hv0.out]
  clear hv0
  have p2_ := P2.out.c16
  have KX := Lib.hid (ccheck_ok c HC.out v0)
  go_wp2_with fail
  refine KX.out.mono ?_
  rintro e v1 ⟨rfl, bel⟩
  clear KX
  clear p2_
  replace P2 := mB P2 bel
  replace P3 := mB P3 bel
  replace P4 := mB P4 bel
  replace HB := mT HB bel
  clear bel
  have p3_ := P3.out.c3
  have KX := Lib.hid (vcheck_ok v HV.out v1)
  go_wp2_with fail
  refine KX.out.mono ?_
  rintro e v2 ⟨rfl, bel⟩
  clear KX
  clear p3_
  replace P2 := mB P2 bel
  replace P3 := mB P3 bel
  replace P4 := mB P4 bel
  replace HB := mT HB bel
  clear bel
  have cp := HC.out.1.1
  have cv := HV.out
  unfold V3.Ok Wi at cp cv
  have wx : IntKind.i64.wrap (v.x - c.p.x) = (v.x - c.p.x) := IntWalk.i64_in _ (by omega)
  have wy : IntKind.i64.wrap (v.y - c.p.y) = (v.y - c.p.y) := IntWalk.i64_in _ (by omega)
  have wz : IntKind.i64.wrap (v.z - c.p.z) = (v.z - c.p.z) := IntWalk.i64_in _ (by omega)
  have KT := Lib.hid (fun W => Turn_ok c.m (v.x - c.p.x) (v.y - c.p.y) (v.z - c.p.z) HC.out.2 (by unfold Wi; omega) W)
  clear cp cv
  go_upto_region 7 with fail
  have p2_ := P2.out.c16
  have p3_ := P3.out.c3
  go_wp2_with fail
  clear p2_
  clear p3_
  refine (KT.out _).mono ?_
  rintro e v3 ⟨rfl, bel⟩
  clear KT wx wy wz
  replace P2 := mB P2 bel
  replace P3 := mB P3 bel
  replace P4 := mB P4 bel
  replace HB := mT HB bel
  clear bel
  have p4_ := P4.out.f3
  go_wp2
  refine bodyPost_ret (v := .tuple #[.agg #[.int .i64 ((c.m 0 * (v.x - c.p.x) + c.m 1 * (v.y - c.p.y) + c.m 2 * (v.z - c.p.z)) / 256), .int .i64 ((c.m 3 * (v.x - c.p.x) + c.m 4 * (v.y - c.p.y) + c.m 5 * (v.z - c.p.z)) / 256), .int .i64 ((c.m 6 * (v.x - c.p.x) + c.m 7 * (v.y - c.p.y) + c.m 8 * (v.z - c.p.z)) / 256)], .int .i64 0]) (by simp [results, Tryd.results49, go_sem, *]) rfl ⟨rfl, ?_⟩
  repeat (refine Below.setCell ?_ (by first | omega | (simp; done) | (simp; omega)) _)
  exact HB.out
end Go.Proofs.YtemopgpcpjnmkaaDoor
