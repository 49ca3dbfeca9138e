/- top: a box as a camera sees it. -/
import Derived.Test.YtemopgpcpjnmkaaDoorT6
import Derived.Test.YtemopgpcpjnmkaaDoorT7
import Derived.Test.YtemopgpcpjnmkaaDoorQTail
namespace Go.Proofs.YtemopgpcpjnmkaaDoor
open Go.RowKit
set_option linter.unusedVariables false
theorem ccheck_ok (c : CD) (h : c.Ok) (w : World) : Calls Tryd.prog 14 #[.agg #[.int .i64 c.p.x, .int .i64 c.p.y, .int .i64 c.p.z, .int .i64 (c.m 0), .int .i64 (c.m 1), .int .i64 (c.m 2), .int .i64 (c.m 3), .int .i64 (c.m 4), .int .i64 (c.m 5), .int .i64 (c.m 6), .int .i64 (c.m 7), .int .i64 (c.m 8), .int .i64 c.F, .int .i64 c.N, .int .i64 c.W, .int .i64 c.H]] w fun e w' => e = .returned (.int .i64 0) ∧ Below w.heap.size w w' := by
  have := ccheck_any c w
  rwa [cod_yes h] at this
/-- The variable frustum.world, as it is laid. -/
def GW (w : World) : Prop := HasBlk w 0 50 #[.int .i64 (-4096), .int .i64 (-4096), .int .i64 (-4096), .int .i64 4096, .int .i64 4096, .int .i64 4096]
theorem GW.below {w w' : World} (h : GW w) (k : Below w.heap.size w w') : GW w' := HasBlk.below h k
def CD.M3 (c : CD) : M3 := ⟨⟨c.m 0, c.m 1, c.m 2⟩, ⟨c.m 3, c.m 4, c.m 5⟩, ⟨c.m 6, c.m 7, c.m 8⟩⟩
/-- A box of the world as the camera sees it. -/
def CD.box (c : CD) (b : B3) : B3 := c.M3.box (b.less c.p)
def B3.World (b : B3) : Prop := (Wi b.lo.x (-4096) 4096 ∧ Wi b.hi.x (-4096) 4096 ∧ b.lo.x ≤ b.hi.x) ∧ (Wi b.lo.y (-4096) 4096 ∧ Wi b.hi.y (-4096) 4096 ∧ b.lo.y ≤ b.hi.y) ∧ (Wi b.lo.z (-4096) 4096 ∧ Wi b.hi.z (-4096) 4096 ∧ b.lo.z ≤ b.hi.z)

set_option maxRecDepth 100000 in
set_option maxHeartbeats 16000000 in
theorem view_ok (c : CD) (b : B3) (hc : c.Ok) (hb : b.World) (w : World) (hG : GW w) : Calls Tryd.prog 16 #[.agg #[.int .i64 c.p.x, .int .i64 c.p.y, .int .i64 c.p.z, .int .i64 (c.m 0), .int .i64 (c.m 1), .int .i64 (c.m 2), .int .i64 (c.m 3), .int .i64 (c.m 4), .int .i64 (c.m 5), .int .i64 (c.m 6), .int .i64 (c.m 7), .int .i64 (c.m 8), .int .i64 c.F, .int .i64 c.N, .int .i64 c.W, .int .i64 c.H], .agg #[.int .i64 b.lo.x, .int .i64 b.lo.y, .int .i64 b.lo.z, .int .i64 b.hi.x, .int .i64 b.hi.y, .int .i64 b.hi.z]] w fun e w' => e = .returned (.tuple #[.agg #[.int .i64 ((c.box b).lo.x), .int .i64 ((c.box b).lo.y), .int .i64 ((c.box b).lo.z), .int .i64 ((c.box b).hi.x), .int .i64 ((c.box b).hi.y), .int .i64 ((c.box b).hi.z)], .int .i64 0]) ∧ Below w.heap.size w w' := by
  have HC := Lib.hid hc
  have HW := Lib.hid hb
  have G0 := Lib.hid hG
  clear hc hb hG
  obtain ⟨v0, hv0, P1, P2, P3, HB⟩ := lay3 w 31 #[.int .i64 c.p.x, .int .i64 c.p.y, .int .i64 c.p.z, .int .i64 (c.m 0), .int .i64 (c.m 1), .int .i64 (c.m 2), .int .i64 (c.m 3), .int .i64 (c.m 4), .int .i64 (c.m 5), .int .i64 (c.m 6), .int .i64 (c.m 7), .int .i64 (c.m 8), .int .i64 c.F, .int .i64 c.N, .int .i64 c.W, .int .i64 c.H] 50 #[.int .i64 b.lo.x, .int .i64 b.lo.y, .int .i64 b.lo.z, .int .i64 b.hi.x, .int .i64 b.hi.y, .int .i64 b.hi.z] 50 #[.int .i64 0, .int .i64 0, .int .i64 0, .int .i64 0, .int .i64 0, .int .i64 0]
  replace G0 := Lib.hid (G0.out.below HB.out)
  go_enter Tryd.func16, Tryd.ntmps16
  go_upto_region 1 with fail
  rw [← hv0.out]
  clear hv0
  have X := HW.out
  unfold B3.World Wi at X
  have p1_ := P1.out.c16
  have KX := Lib.hid (ccheck_ok c HC.out v0)
  go_wp2_with fail
  refine KX.out.mono ?_
  rintro e v1 ⟨rfl, bel⟩
  clear KX
  clear p1_
  replace P1 := mB P1 bel
  replace P2 := mB P2 bel
  replace P3 := mB P3 bel
  replace G0 := Lib.hid (G0.out.below bel)
  replace HB := mT HB bel
  clear bel
  have KC := Lib.hid (fun W => bcheck_ok b.lo.x b.lo.y b.lo.z b.hi.x b.hi.y b.hi.z (by unfold B3.Ok B3.mk6 Wi; dsimp only; omega) W)
  have KI := Lib.hid (fun W => inside_ok b.lo.x b.lo.y b.lo.z b.hi.x b.hi.y b.hi.z (-4096) (-4096) (-4096) 4096 4096 4096 (by unfold B3.In B3.mk6; dsimp only; omega) W)
  have cm := HC.out
  unfold CD.Ok V3.Ok Wi at cm
  have KL := Lib.hid (fun W => less_any b.lo c.p (by unfold V3.Sm Wi; omega) (by unfold V3.Sm Wi; omega) W)
  have KH := Lib.hid (fun W => less_any b.hi c.p (by unfold V3.Sm Wi; omega) (by unfold V3.Sm Wi; omega) W)
  have KT := Lib.hid (fun W => turned_ok c.m (b.lo.less c.p).x (b.lo.less c.p).y (b.lo.less c.p).z (b.hi.less c.p).x (b.hi.less c.p).y (b.hi.less c.p).z HC.out.2 (by unfold V3.less Wi; dsimp only; omega) W)
  clear X cm
  have p2_ := P2.out.c6
  have KX := Lib.hid (KC.out v1)
  go_wp2_with fail
  refine KX.out.mono ?_
  rintro e v2 ⟨rfl, bel⟩
  clear KX
  clear p2_
  replace P1 := mB P1 bel
  replace P2 := mB P2 bel
  replace P3 := mB P3 bel
  replace G0 := Lib.hid (G0.out.below bel)
  replace HB := mT HB bel
  clear bel
  have g0 := G0.out
  unfold GW at g0
  have G := Lib.hid g0
  clear g0
  have p2_ := P2.out.c6
  have g_ := G.out.c6
  have KX := Lib.hid (KI.out v2)
  go_wp2_with fail
  refine KX.out.mono ?_
  rintro e v3 ⟨rfl, bel⟩
  clear KX
  clear p2_
  clear g_
  replace P1 := mB P1 bel
  replace P2 := mB P2 bel
  replace P3 := mB P3 bel
  replace G := mB G bel
  replace G0 := Lib.hid (G0.out.below bel)
  replace HB := mT HB bel
  clear bel
  go_upto_region 6 with fail
  have e0 := fun pb : BW v3 => BW.cell (P1.out.at 0 rfl) P1.out.lt pb
  have e1 := fun pb : BW v3 => BW.cell (P1.out.at 1 rfl) P1.out.lt pb
  have e2 := fun pb : BW v3 => BW.cell (P1.out.at 2 rfl) P1.out.lt pb
  have e3 := fun pb : BW v3 => BW.cell (P1.out.at 3 rfl) P1.out.lt pb
  have e4 := fun pb : BW v3 => BW.cell (P1.out.at 4 rfl) P1.out.lt pb
  have e5 := fun pb : BW v3 => BW.cell (P1.out.at 5 rfl) P1.out.lt pb
  have e6 := fun pb : BW v3 => BW.cell (P1.out.at 6 rfl) P1.out.lt pb
  have e7 := fun pb : BW v3 => BW.cell (P1.out.at 7 rfl) P1.out.lt pb
  have e8 := fun pb : BW v3 => BW.cell (P1.out.at 8 rfl) P1.out.lt pb
  have e9 := fun pb : BW v3 => BW.cell (P1.out.at 9 rfl) P1.out.lt pb
  have e10 := fun pb : BW v3 => BW.cell (P1.out.at 10 rfl) P1.out.lt pb
  have e11 := fun pb : BW v3 => BW.cell (P1.out.at 11 rfl) P1.out.lt pb
  have e12 := fun pb : BW v3 => BW.cell (P2.out.at 0 rfl) P2.out.lt pb
  have e13 := fun pb : BW v3 => BW.cell (P2.out.at 1 rfl) P2.out.lt pb
  have e14 := fun pb : BW v3 => BW.cell (P2.out.at 2 rfl) P2.out.lt pb
  have e15 := fun pb : BW v3 => BW.cell (P2.out.at 3 rfl) P2.out.lt pb
  have e16 := fun pb : BW v3 => BW.cell (P2.out.at 4 rfl) P2.out.lt pb
  have e17 := fun pb : BW v3 => BW.cell (P2.out.at 5 rfl) P2.out.lt pb
  have k1 := Lib.hid (fun pb : BW v3 => BW.call (v := .agg #[.int .i64 ((b.lo.less c.p).x), .int .i64 ((b.lo.less c.p).y), .int .i64 ((b.lo.less c.p).z)]) (fun W' (h : Below v3.heap.size v3 W') => KL.out W') pb)
  have k2 := Lib.hid (fun pb : BW v3 => BW.call (v := .agg #[.int .i64 ((b.hi.less c.p).x), .int .i64 ((b.hi.less c.p).y), .int .i64 ((b.hi.less c.p).z)]) (fun W' (h : Below v3.heap.size v3 W') => KH.out W') pb)
  have k3 := Lib.hid (fun pb : BW v3 => BW.call (v := .tuple #[.agg #[.int .i64 ((c.box b).lo.x), .int .i64 ((c.box b).lo.y), .int .i64 ((c.box b).lo.z), .int .i64 ((c.box b).hi.x), .int .i64 ((c.box b).hi.y), .int .i64 ((c.box b).hi.z)], .int .i64 0]) (fun W' (h : Below v3.heap.size v3 W') => KT.out W') pb)
  refine wp_region_bw_tail 16 (by kernel_rfl) (by kernel_rfl) ?_
  simp only [List.take_succ_cons, List.take_zero, List.drop_succ_cons, List.drop_zero]
  repeat (go_big_quiet_step ((first | (go_at_call 27; with_reducible exact k1.out _) | (go_at_call 27; with_reducible exact k2.out _) | (go_at_call 26; with_reducible exact k3.out _))))
  refine wpQuiet_nil ?_
  intro _ hw'
  obtain ⟨pq, hw''⟩ := hw'
  subst hw''
  clear e0 e1 e2 e3 e4 e5 e6 e7 e8 e9 e10 e11 e12 e13 e14 e15 e16 e17 k1 k2 k3
  replace P1 := mB P1 pq.h
  replace P2 := mB P2 pq.h
  replace P3 := mB P3 pq.h
  replace G := mB G pq.h
  replace G0 := Lib.hid (G0.out.below pq.h)
  replace HB := mT HB pq.h
  generalize pq.W = v4 at *
  clear pq
  have p3_ := P3.out.f6
  go_wp2
  refine bodyPost_ret (v := .tuple #[.agg #[.int .i64 ((c.box b).lo.x), .int .i64 ((c.box b).lo.y), .int .i64 ((c.box b).lo.z), .int .i64 ((c.box b).hi.x), .int .i64 ((c.box b).hi.y), .int .i64 ((c.box b).hi.z)], .int .i64 0]) (by simp [results, Tryd.results16, go_sem, *]) rfl ⟨rfl, ?_⟩
  repeat (refine Below.setCell ?_ (by first | omega | (simp; done) | (simp; omega)) _)
  exact HB.out
end Go.Proofs.YtemopgpcpjnmkaaDoor
