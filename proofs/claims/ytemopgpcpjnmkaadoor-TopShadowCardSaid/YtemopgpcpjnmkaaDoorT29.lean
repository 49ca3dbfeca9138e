/- top: TopShadow's walk. -/
import Derived.Test.YtemopgpcpjnmkaaDoorT27
import Derived.Test.YtemopgpcpjnmkaaDoorT28
import Derived.Test.YtemopgpcpjnmkaaDoorT9c
namespace Go.Proofs.YtemopgpcpjnmkaaDoor
open Go.RowKit
set_option linter.unusedVariables false
theorem inr_ok (X0 Y0 X1 Y1 x y : Int) (h : In X0 Y0 X1 Y1 x y) (w : World) : Calls Tryd.prog 7 #[.agg #[.int .i64 X0, .int .i64 Y0, .int .i64 X1, .int .i64 Y1], .int .i64 x, .int .i64 y] w fun e w' => e = .returned (.bool true) ∧ Below w.heap.size w w' :=
  (inr_any X0 Y0 X1 Y1 x y w).mono fun e w' ⟨⟨b, he, hb⟩, bel⟩ => ⟨by rw [he, hb.2 h], bel⟩
/-- Cells in a row. -/
def CL (w : World) (g o : Nat) (cs : Array Value) : Prop := g < w.heap.size ∧ ∀ j u, cs.toList[j]? = some u → w.cell? ⟨g, o + j, none⟩ = some u
theorem CL.below {w w' : World} {g o : Nat} {cs : Array Value} (h : CL w g o cs) (hb : Below w.heap.size w w') : CL w' g o cs :=
  ⟨Nat.lt_of_lt_of_le h.1 hb.size, fun j u hj => (hb.cell (p := ⟨g, o + j, none⟩) h.1).trans (h.2 j u hj)⟩
theorem CL.grown {w w' : World} {g o : Nat} {cs : Array Value} {row : Option Nat} (h : CL w g o cs) (hg : w.grownBy w' row) (hn : some g ≠ row) : CL w' g o cs :=
  ⟨Nat.lt_of_lt_of_le h.1 hg.size, fun j u hj => by rw [hg.cell_far _ h.1 hn]; exact h.2 j u hj⟩
theorem yieldsIf_CL {P : Program} {ops : Array Oper} {S : World → Prop} {op : Oper} {a : Act} (hw : Region.wanted op (yielded ops a.tmps) = true) (ty : TypeId) (x : Operand) (ho : op.op = .load ty x)
    (g o : Nat) (hx : a.eval x = .pointer (some ⟨g, o, none⟩)) (cs : Array Value) (hA : Agg P ty cs.size) (hS : ∀ w, S w → CL w g o cs) : YieldsIf P ops S op (.agg cs) a :=
  .inl ⟨hw, fun w hw' => by
    unfold execOp
    simp only [ho, hx, Instr.loadAt, Instr.sureAddr, Sem.run_bind, Sem.run_pure, Result.andThen_ok, run_loadVar_at g o ty cs hA (hS w hw').2]⟩
theorem It.box_at {it : It} {j : Nat} {u : Value} (h : it.box.cells[j]? = some u) : it.cells[12 + j]? = some u := by
  show ([.slice it.Av it.V.length it.cv, .slice it.Au it.U.length it.cu, .slice it.At it.T.length it.ct, .int .u8 it.look.c0, .int .u8 it.look.c1, .int .u8 it.look.c2, .int .u8 it.look.c3, .int .i64 it.look.tex, .int .u8 it.look.cull, .int .i64 it.look.bias, .bool it.look.blend, .int .i64 it.look.bin] ++ it.box.cells)[12 + j]? = some u
  rw [List.getElem?_append_right (by simp)]
  rw [show 12 + j - ([.slice it.Av it.V.length it.cv, .slice it.Au it.U.length it.cu, .slice it.At it.T.length it.ct, .int .u8 it.look.c0, .int .u8 it.look.c1, .int .u8 it.look.c2, .int .u8 it.look.c3, .int .i64 it.look.tex, .int .u8 it.look.cull, .int .i64 it.look.bias, .bool it.look.blend, .int .i64 it.look.bin] : List Value).length = j by simp]
  exact h
theorem agg50 : Agg Tryd.prog 50 6 := ⟨_, Tryd.underlying50, rfl, by kernel_rfl⟩

set_option maxRecDepth 100000 in
set_option maxHeartbeats 32000000 in
theorem topShadow_walk (s : Sh) (c : CD) (X0 Y0 X1 Y1 x y : Int) (w : World) (hR : s.Rd w) (hG : GC w) : Calls Tryd.prog 3 #[.agg #[.slice s.Ai s.I.length s.ci, .slice s.Ax s.X.length s.cx], .agg #[.int .i64 c.p.x, .int .i64 c.p.y, .int .i64 c.p.z, .int .i64 (c.m 0), .int .i64 (c.m 1), .int .i64 (c.m 2), .int .i64 (c.m 3), .int .i64 (c.m 4), .int .i64 (c.m 5), .int .i64 (c.m 6), .int .i64 (c.m 7), .int .i64 (c.m 8), .int .i64 c.F, .int .i64 c.N, .int .i64 c.W, .int .i64 c.H], .agg #[.int .i64 X0, .int .i64 Y0, .int .i64 X1, .int .i64 Y1], .int .i64 x, .int .i64 y] w fun e w' => e = .returned (.bool true) ∧ Below w.heap.size w w' := by
  obtain ⟨I, X, Ai, ci, Ax, cx⟩ := s
  dsimp only
  have HR := Lib.hid hR
  have G0 := Lib.hid hG
  clear hR hG
  obtain ⟨nI, hnI⟩ : ∃ n, n = I.length := ⟨_, rfl⟩
  obtain ⟨nX, hnX⟩ : ∃ n, n = X.length := ⟨_, rfl⟩
  rw [← hnI, ← hnX]
  have HNI := Lib.hid hnI
  have HNX := Lib.hid hnX
  clear hnI hnX
  obtain ⟨v0, hv0, BS, BC, BR, HB⟩ := lay3 w 25 #[.slice Ai nI ci, .slice Ax nX cx] 31 #[.int .i64 c.p.x, .int .i64 c.p.y, .int .i64 c.p.z, .int .i64 (c.m 0), .int .i64 (c.m 1), .int .i64 (c.m 2), .int .i64 (c.m 3), .int .i64 (c.m 4), .int .i64 (c.m 5), .int .i64 (c.m 6), .int .i64 (c.m 7), .int .i64 (c.m 8), .int .i64 c.F, .int .i64 c.N, .int .i64 c.W, .int .i64 c.H] 33 #[.int .i64 X0, .int .i64 Y0, .int .i64 X1, .int .i64 Y1]
  replace G0 := Lib.hid (G0.out.below HB.out)
  go_enter Tryd.func3, Tryd.ntmps3
  go_upto_region 1 with fail
  rw [← hv0.out]
  clear hv0
  have KX := Lib.hid (drawn_true v0)
  go_wp2_with fail
  refine KX.out.mono ?_
  rintro e v1 ⟨rfl, bel⟩
  clear KX
  replace BS := mB BS bel
  replace BC := mB BC bel
  replace BR := mB BR bel
  replace G0 := Lib.hid (G0.out.below bel)
  replace HB := mT HB bel
  clear bel
  have KX := Lib.hid (great_any ⟨I, X, Ai, ci, Ax, cx⟩ v1 (HR.out.below HB.out))
  dsimp only at KX
  rw [← HNI.out, ← HNX.out] at KX
  have bs_ := BS.out.c2
  go_wp2_with fail
  refine KX.out.mono ?_
  rintro e v2 ⟨⟨b, rfl⟩, bel⟩
  clear KX
  clear bs_
  replace BS := mB BS bel
  replace BC := mB BC bel
  replace BR := mB BR bel
  replace G0 := Lib.hid (G0.out.below bel)
  replace HB := mT HB bel
  clear bel
  cases b
  rotate_left
  · go_wp2
    go_ret
    exact ⟨rfl, HB.out⟩
  have KX := Lib.hid (Frags_any ⟨I, X, Ai, ci, Ax, cx⟩ c x y v2 (HR.out.below HB.out))
  dsimp only at KX
  rw [← HNI.out, ← HNX.out] at KX
  have bs_ := BS.out.c2
  go_wp2_with (refine wpList_loadB rfl 31 _ rfl ((w.heap.size + 1)) rfl #[.int .i64 c.p.x, .int .i64 c.p.y, .int .i64 c.p.z, .int .i64 (c.m 0), .int .i64 (c.m 1), .int .i64 (c.m 2), .int .i64 (c.m 3), .int .i64 (c.m 4), .int .i64 (c.m 5), .int .i64 (c.m 6), .int .i64 (c.m 7), .int .i64 (c.m 8), .int .i64 c.F, .int .i64 c.N, .int .i64 c.W, .int .i64 c.H] agg31 BC.out ?_)
  have HBZ := Lib.hid HB.out.size
  refine KX.out.mono ?_
  rintro e v3 ⟨q, v, rfl, hq, hof, bel⟩
  clear KX
  clear bs_
  have HQ := Lib.hid hq
  have HOF := Lib.hid hof
  clear hq hof
  replace BS := mB BS bel
  replace BC := mB BC bel
  replace BR := mB BR bel
  replace G0 := Lib.hid (G0.out.below bel)
  replace HB := mT HB bel
  clear bel
  by_cases hq0 : q = 0
  rotate_left
  · have g0 : (q != 0) = true := by simp [hq0]
    clear hq0
    go_wp2
    go_ret
    exact ⟨rfl, HB.out⟩
  have HG := Lib.hid (HQ.out.1 hq0)
  have OF := Lib.hid ((HOF.out hq0).low HBZ.out)
  subst hq0
  clear HQ HOF HBZ
  have KX := Lib.hid (inr_any X0 Y0 X1 Y1 x y v3)
  have br_ := BR.out.c4
  go_wp2_with fail
  refine KX.out.mono ?_
  rintro e v4 ⟨⟨b, rfl, hb⟩, bel⟩
  clear KX
  clear br_
  have HI := Lib.hid hb
  clear hb
  replace BS := mB BS bel
  replace BC := mB BC bel
  replace BR := mB BR bel
  replace G0 := Lib.hid (G0.out.below bel)
  replace OF := Lib.hid (OF.out.below bel)
  replace HB := mT HB bel
  clear bel
  cases b
  · go_wp2
    go_ret
    exact ⟨rfl, HB.out⟩
  have HIN := Lib.hid (show In X0 Y0 X1 Y1 x y by have := HI.out; simpa using this)
  clear HI
  have KX := Lib.hid (window_any c X0 Y0 X1 Y1 v4)
  obtain ⟨wq, hwq⟩ : ∃ q, q = wcod c X0 Y0 X1 Y1 := ⟨_, rfl⟩
  rw [← hwq] at KX
  have HWQ := Lib.hid hwq
  clear hwq
  have bc_ := BC.out.c16
  have br_ := BR.out.c4
  go_wp2_with fail
  refine KX.out.mono ?_
  rintro e v5 ⟨rfl, bel⟩
  clear KX
  clear bc_
  clear br_
  replace BS := mB BS bel
  replace BC := mB BC bel
  replace BR := mB BR bel
  replace G0 := Lib.hid (G0.out.below bel)
  replace OF := Lib.hid (OF.out.below bel)
  replace HB := mT HB bel
  clear bel
  by_cases hq0 : wq = 0
  rotate_left
  · have g0 : (wq != 0) = true := by simp [hq0]
    clear hq0
    go_wp2
    go_ret
    exact ⟨rfl, HB.out⟩
  have HWO := Lib.hid (wcod_zero.1 (HWQ.out.symm.trans hq0))
  subst hq0
  clear HWQ
  obtain ⟨L, hL⟩ : ∃ L, L = Sh.frags ⟨I, X, Ai, ci, Ax, cx⟩ c x y := ⟨_, rfl⟩
  rw [← hL] at OF
  have HL := Lib.hid hL
  clear hL
  obtain ⟨A, n, cp, hv⟩ := OF.out.shape
  subst hv
  obtain hnL : n = L.length := (OF.out.row Fr.len).1
  have HNL := Lib.hid hnL
  have HN6 := Lib.hid (show n ≤ 1000000 by
    rw [hnL, HL.out]
    exact Nat.le_trans (fragsTo_len _ _ _ _) (pts_len HG.out.1.1))
  clear hnL
  go_wp2
  go_loopw [14] (fun s14 wr => ∃ i : Nat, i ≤ n ∧ s14 = .int .i64 (i : Int) ∧ GC wr ∧ OwnL wr w.heap.size 54 6 Fr.cells L (.slice A n cp) ∧ HasBlk wr w.heap.size 25 #[.slice Ai nI ci, .slice Ax nX cx] ∧ HasBlk wr (w.heap.size + 1) 31 #[.int .i64 c.p.x, .int .i64 c.p.y, .int .i64 c.p.z, .int .i64 (c.m 0), .int .i64 (c.m 1), .int .i64 (c.m 2), .int .i64 (c.m 3), .int .i64 (c.m 4), .int .i64 (c.m 5), .int .i64 (c.m 6), .int .i64 (c.m 7), .int .i64 (c.m 8), .int .i64 c.F, .int .i64 c.N, .int .i64 c.W, .int .i64 c.H] ∧ HasBlk wr (w.heap.size + 1 + 1) 33 #[.int .i64 X0, .int .i64 Y0, .int .i64 X1, .int .i64 Y1] ∧ Below w.heap.size w wr) (fun s14 wr => n - (intOf s14).toNat)
  case atStart => exact ⟨0, Nat.zero_le _, rfl, G0.out, OF.out, BS.out, BC.out, BR.out, HB.out⟩
  case round =>
    clear G0 OF BS BC BR HB
    obtain ⟨i, hi, rfl, qG, qF, qBS, qBC, qBR, qHB⟩ := hrel
    have BS := Lib.hid qBS
    have BC := Lib.hid qBC
    have BR := Lib.hid qBR
    have HB := Lib.hid qHB
    clear qBS qBC qBR qHB
    have G0 := Lib.hid (show GC wr from qG)
    have OF := Lib.hid qF
    clear qG qF
    by_cases hin : i < n
    rotate_left
    · obtain rfl : n = i := by omega
      have d0 : decide ((n : Int) < (n : Int)) = false := by simp
      go_wp2
      go_ret
      exact ⟨rfl, HB.out⟩
    have d0 : decide ((i : Int) < (n : Int)) = true := decide_eq_true (by omega)
    have ii1 : (i : Int) < (n : Int) := by omega
    have ii0 : (0 : Int) ≤ (i : Int) := by omega
    obtain ⟨f, hf⟩ : ∃ f, L[i]? = some f := ⟨_, List.getElem?_eq_getElem (by rw [← HNL.out]; exact hin)⟩
    obtain ⟨ni, it, hit, hfi, hW, hz1, hx, hy, hd, hbi, hfD⟩ := frag_law (s := ⟨I, X, Ai, ci, Ax, cx⟩) HG.out (by rw [← HL.out]; exact List.mem_of_getElem? hf)
    obtain ⟨gf, of, rfl, hgf, hcf⟩ := (OF.out.row Fr.len).2 (by rw [← HNL.out]; omega)
    have XF := Lib.hid (show C3 wr gf (of + i * 6) (.int .i64 f.D) (.int .i64 (ni : Int)) (.int .i64 f.k) from ⟨hgf, hcf i f hf 0 _ rfl, by rw [← hfi]; exact hcf i f hf 1 _ rfl, hcf i f hf 2 _ rfl⟩)
    dsimp only at hit
    have hnil := (List.getElem?_eq_some_iff.1 hit).1
    obtain ⟨gi, oi, hAi, hgi, hci⟩ := HR.out.1.below HB.out (by show 0 < I.length; omega)
    dsimp only at hAi
    subst hAi
    have XI := Lib.hid (show CL wr gi (oi + ni * 18) #[.slice it.Av it.V.length it.cv, .slice it.Au it.U.length it.cu, .slice it.At it.T.length it.ct, .int .u8 it.look.c0, .int .u8 it.look.c1, .int .u8 it.look.c2, .int .u8 it.look.c3, .int .i64 it.look.tex, .int .u8 it.look.cull, .int .i64 it.look.bias, .bool it.look.blend, .int .i64 it.look.bin, .int .i64 it.box.lo.x, .int .i64 it.box.lo.y, .int .i64 it.box.lo.z, .int .i64 it.box.hi.x, .int .i64 it.box.hi.y, .int .i64 it.box.hi.z] from ⟨hgi, fun j u hj => hci ni it hit j u hj⟩)
    have in1 : (ni : Int) < (nI : Int) := by have := HNI.out; omega
    have in0 : (0 : Int) ≤ (ni : Int) := by omega
    have HWb := Lib.hid hW
    have HZ1 := Lib.hid hz1
    have HX := Lib.hid hx
    have HY := Lib.hid hy
    have HD := Lib.hid hd
    have HBI := Lib.hid hbi
    have HFD := Lib.hid hfD
    clear hf hit hfi hW hz1 hx hy hd hbi hfD hgf hcf hgi hci hnil
    go_upto_region 10 with fail
    clear d0
    have bd := (Below.refl wr.heap.size wr).drew
    replace BS := mB BS bd
    replace BC := mB BC bd
    replace BR := mB BR bd
    replace G0 := Lib.hid (G0.out.below bd)
    replace OF := Lib.hid (OF.out.below bd)
    replace XF := Lib.hid (XF.out.below bd)
    replace XI := Lib.hid (XI.out.below bd)
    replace HB := mT HB bd
    clear bd
    obtain ⟨SS, hSS⟩ : ∃ SS : World → Prop, SS = (fun Wo => HasBlk Wo w.heap.size 25 #[.slice (some ⟨gi, oi, none⟩) nI ci, .slice Ax nX cx] ∧ C3 Wo gf (of + i * 6) (.int .i64 f.D) (.int .i64 (ni : Int)) (.int .i64 f.k) ∧ CL Wo gi (oi + ni * 18) #[.slice it.Av it.V.length it.cv, .slice it.Au it.U.length it.cu, .slice it.At it.T.length it.ct, .int .u8 it.look.c0, .int .u8 it.look.c1, .int .u8 it.look.c2, .int .u8 it.look.c3, .int .i64 it.look.tex, .int .u8 it.look.cull, .int .i64 it.look.bias, .bool it.look.blend, .int .i64 it.look.bin, .int .i64 it.box.lo.x, .int .i64 it.box.lo.y, .int .i64 it.box.lo.z, .int .i64 it.box.hi.x, .int .i64 it.box.hi.y, .int .i64 it.box.hi.z]) := ⟨_, rfl⟩
    have HSS := Lib.hid hSS
    clear hSS
    have HS := Lib.hid (show SS wr.drew by rw [HSS.out]; exact ⟨BS.out, XF.out, XI.out⟩)
    refine wp_region_E SS 99 (by kernel_rfl) ?_
    generalize gwd : wr.drew = z0 at *
    clear gwd
    refine wpAnyE_takeA (i := 0) (v := .pointer (some ⟨w.heap.size, 0, none⟩)) rfl (by kernel_rfl) (fun _ _ _ h => h) (.inl ⟨by first | kernel_rfl | rfl, fun W hW => by go_simp⟩) HS.out ?_
    simp only [Act.put, List.setIfInBounds_toArray]
    refine wpAnyE_takeA (i := 1) (v := .slice (some ⟨gi, oi, none⟩) nI ci) rfl (by kernel_rfl) (fun _ _ _ h => h) (.inl ⟨by first | kernel_rfl | rfl, fun W hW => ?_⟩) HS.out ?_
    · rw [HSS.out] at hW
      obtain ⟨hWBS, hWXF, hWXI⟩ := hW
      have qBS0 := hWBS.cell 0
      have qBS1 := hWBS.cell 1
      have qzBS := hWBS.lt
      simp at qBS0 qBS1
      go_simp
    simp only [Act.put]
    refine wpAnyE_takeA (i := 2) (v := .slice (some ⟨gf, of, none⟩) n cp) rfl (by kernel_rfl) (fun _ _ _ h => h) (.inl ⟨by first | kernel_rfl | rfl, fun W hW => by go_simp⟩) HS.out ?_
    simp only [Act.put]
    refine wpAnyE_takeA (i := 3) (v := .int .i64 (i : Int)) rfl (by kernel_rfl) (fun _ _ _ h => h) (.inl ⟨by first | kernel_rfl | rfl, fun W hW => by go_simp⟩) HS.out ?_
    simp only [Act.put]
    refine wpAnyE_takeA (i := 4) (v := .pointer (some ⟨gf, of + i * 6, none⟩)) rfl (by kernel_rfl) (fun _ _ _ h => h) (.inl ⟨by first | kernel_rfl | rfl, fun W hW => by go_simp⟩) HS.out ?_
    simp only [Act.put]
    refine wpAnyE_takeA (i := 5) (v := .pointer (some ⟨gf, of + i * 6 + 1, none⟩)) rfl (by kernel_rfl) (fun _ _ _ h => h) (.inl ⟨by first | kernel_rfl | rfl, fun W hW => by go_simp⟩) HS.out ?_
    simp only [Act.put]
    refine wpAnyE_takeA (i := 6) (v := .int .i64 (ni : Int)) rfl (by kernel_rfl) (fun _ _ _ h => h) (.inl ⟨by first | kernel_rfl | rfl, fun W hW => ?_⟩) HS.out ?_
    · rw [HSS.out] at hW
      obtain ⟨hWBS, hWXF, hWXI⟩ := hW
      obtain ⟨qzXF, qXF0, qXF1, qXF2⟩ := hWXF
      go_simp
    simp only [Act.put]
    refine wpAnyE_takeA (i := 7) (v := .pointer (some ⟨gi, oi + ni * 18, none⟩)) rfl (by kernel_rfl) (fun _ _ _ h => h) (.inl ⟨by first | kernel_rfl | rfl, fun W hW => by go_simp⟩) HS.out ?_
    simp only [Act.put]
    refine wpAnyE_takeA (i := 8) (v := .agg #[.slice it.Av it.V.length it.cv, .slice it.Au it.U.length it.cu, .slice it.At it.T.length it.ct, .int .u8 it.look.c0, .int .u8 it.look.c1, .int .u8 it.look.c2, .int .u8 it.look.c3, .int .i64 it.look.tex, .int .u8 it.look.cull, .int .i64 it.look.bias, .bool it.look.blend, .int .i64 it.look.bin, .int .i64 it.box.lo.x, .int .i64 it.box.lo.y, .int .i64 it.box.lo.z, .int .i64 it.box.hi.x, .int .i64 it.box.hi.y, .int .i64 it.box.hi.z]) rfl (by kernel_rfl) (fun _ _ _ h => h) (yieldsIf_CL (by first | kernel_rfl | rfl) 52 _ rfl gi (oi + ni * 18) rfl #[.slice it.Av it.V.length it.cv, .slice it.Au it.U.length it.cu, .slice it.At it.T.length it.ct, .int .u8 it.look.c0, .int .u8 it.look.c1, .int .u8 it.look.c2, .int .u8 it.look.c3, .int .i64 it.look.tex, .int .u8 it.look.cull, .int .i64 it.look.bias, .bool it.look.blend, .int .i64 it.look.bin, .int .i64 it.box.lo.x, .int .i64 it.box.lo.y, .int .i64 it.box.lo.z, .int .i64 it.box.hi.x, .int .i64 it.box.hi.y, .int .i64 it.box.hi.z] agg52 (fun W hW => by rw [HSS.out] at hW; exact hW.2.2)) HS.out ?_
    simp only [Act.put]
    refine wpAnyE_step (i := 9) rfl (by kernel_rfl) (fun KQ HK => ?_)
    go_wp2
    have hbel := (Below.refl z0.heap.size z0).alloc (Nat.le_refl _) (.cells #[.slice none 0 0, .slice none 0 0, .slice none 0 0, .int .u8 0, .int .u8 0, .int .u8 0, .int .u8 0, .int .i64 0, .int .u8 0, .int .i64 0, .bool false, .int .i64 0, .int .i64 0, .int .i64 0, .int .i64 0, .int .i64 0, .int .i64 0, .int .i64 0] 52)
    have BI := Lib.hid (hasBlk_new z0 52 #[.slice none 0 0, .slice none 0 0, .slice none 0 0, .int .u8 0, .int .u8 0, .int .u8 0, .int .u8 0, .int .i64 0, .int .u8 0, .int .i64 0, .bool false, .int .i64 0, .int .i64 0, .int .i64 0, .int .i64 0, .int .i64 0, .int .i64 0, .int .i64 0])
    clear HS
    have LBI := Lib.hid (show w.heap.size ≤ z0.heap.size from HB.out.size)
    have NBIBS := Lib.hid BS.out.lt
    have NBIBC := Lib.hid BC.out.lt
    have NBIBR := Lib.hid BR.out.lt
    have NBIXF := Lib.hid XF.out.1
    have NBIXI := Lib.hid XI.out.1
    replace BS := mB BS hbel
    replace BC := mB BC hbel
    replace BR := mB BR hbel
    replace G0 := Lib.hid (G0.out.below hbel)
    replace OF := Lib.hid (OF.out.below hbel)
    replace XF := Lib.hid (XF.out.below hbel)
    replace XI := Lib.hid (XI.out.below hbel)
    replace HB := mT HB hbel
    clear hbel
    have HS := Lib.hid (show SS (z0.alloc (.cells #[.slice none 0 0, .slice none 0 0, .slice none 0 0, .int .u8 0, .int .u8 0, .int .u8 0, .int .u8 0, .int .i64 0, .int .u8 0, .int .i64 0, .bool false, .int .i64 0, .int .i64 0, .int .i64 0, .int .i64 0, .int .i64 0, .int .i64 0, .int .i64 0] 52)) by rw [HSS.out]; exact ⟨BS.out, XF.out, XI.out⟩)
    refine HK _ _ (fun _ => HS.out) ?_
    clear HK
    obtain ⟨xi, hxi⟩ : ∃ xi, xi = z0.heap.size := ⟨_, rfl⟩
    rw [← hxi] at BI LBI NBIBS NBIBC NBIBR NBIXF NBIXI ⊢
    clear hxi
    generalize z0.alloc (.cells #[.slice none 0 0, .slice none 0 0, .slice none 0 0, .int .u8 0, .int .u8 0, .int .u8 0, .int .u8 0, .int .i64 0, .int .u8 0, .int .i64 0, .bool false, .int .i64 0, .int .i64 0, .int .i64 0, .int .i64 0, .int .i64 0, .int .i64 0, .int .i64 0] 52) = z1 at *
    refine wpAnyE_step (i := 10) rfl (by kernel_rfl) (fun KQ HK => ?_)
    refine wpList_storeB rfl 52 _ _ rfl xi #[.slice none 0 0, .slice none 0 0, .slice none 0 0, .int .u8 0, .int .u8 0, .int .u8 0, .int .u8 0, .int .i64 0, .int .u8 0, .int .i64 0, .bool false, .int .i64 0, .int .i64 0, .int .i64 0, .int .i64 0, .int .i64 0, .int .i64 0, .int .i64 0] #[.slice it.Av it.V.length it.cv, .slice it.Au it.U.length it.cu, .slice it.At it.T.length it.ct, .int .u8 it.look.c0, .int .u8 it.look.c1, .int .u8 it.look.c2, .int .u8 it.look.c3, .int .i64 it.look.tex, .int .u8 it.look.cull, .int .i64 it.look.bias, .bool it.look.blend, .int .i64 it.look.bin, .int .i64 it.box.lo.x, .int .i64 it.box.lo.y, .int .i64 it.box.lo.z, .int .i64 it.box.hi.x, .int .i64 it.box.hi.y, .int .i64 it.box.hi.z] rfl rfl (by kernel_rfl) BI.out rfl (by simp [Value.oneCell']) ?_
    intro z2 hBI hgr
    have nOF := OF.out.ne BI.out (by decide)
    have qBS := BS.out.grown hgr (fun e => by injection e with e; have := NBIBS.out; omega)
    have qBC := BC.out.grown hgr (fun e => by injection e with e; have := NBIBC.out; omega)
    have qBR := BR.out.grown hgr (fun e => by injection e with e; have := NBIBR.out; omega)
    have qG := GC.grown G0.out hgr (fun e => by injection e with e; have := LBI.out; have := NBIBS.out; omega)
    have qOF := OF.out.grown hgr (.inr nOF)
    have qXF := XF.out.grown hgr (fun e => by injection e with e; have := NBIXF.out; omega)
    have qXI := XI.out.grown hgr (fun e => by injection e with e; have := NBIXI.out; omega)
    have qHB := HB.out.grown hgr HB.out.size (fun k hk => by injection hk with hk; have := LBI.out; omega)
    clear BI nOF hgr BS BC BR G0 OF XF XI HB HS
    have BI := Lib.hid hBI
    have G0 := Lib.hid (show GC z2 from qG)
    have BS := Lib.hid qBS
    have BC := Lib.hid qBC
    have BR := Lib.hid qBR
    have OF := Lib.hid qOF
    have XF := Lib.hid qXF
    have XI := Lib.hid qXI
    have HB := Lib.hid qHB
    clear hBI qG qBS qBC qBR qOF qXF qXI qHB
    have HS := Lib.hid (show SS z2 by rw [HSS.out]; exact ⟨BS.out, XF.out, XI.out⟩)
    go_wp2
    refine HK _ _ (fun _ => HS.out) ?_
    clear HK HS
    refine wpAnyE_done (by kernel_rfl) ?_
    clear in1 in0
    have H6 := Lib.hid (show ∀ e u, (#[.int .i64 it.box.lo.x, .int .i64 it.box.lo.y, .int .i64 it.box.lo.z, .int .i64 it.box.hi.x, .int .i64 it.box.hi.y, .int .i64 it.box.hi.z] : Array Value).toList[e]? = some u → z2.cell? ⟨xi, 12 + e, none⟩ = some u from fun e u he => BI.out.atl (L := it.cells) rfl (12 + e) u (It.box_at he))
    have KX := Lib.hid (shadow_okc c it.box X0 Y0 X1 Y1 HG.out.1.2 HWb.out HWO.out.2 HZ1.out (by have := HX.out; have := HIN.out.1; omega) (by have := HY.out; have := HIN.out.2; omega) z2 G0.out)
    have br_ := BR.out.c4
    go_wp2_with (first | (refine wpList_loadB rfl 31 _ rfl ((w.heap.size + 1)) rfl #[.int .i64 c.p.x, .int .i64 c.p.y, .int .i64 c.p.z, .int .i64 (c.m 0), .int .i64 (c.m 1), .int .i64 (c.m 2), .int .i64 (c.m 3), .int .i64 (c.m 4), .int .i64 (c.m 5), .int .i64 (c.m 6), .int .i64 (c.m 7), .int .i64 (c.m 8), .int .i64 c.F, .int .i64 c.N, .int .i64 c.W, .int .i64 c.H] agg31 BC.out ?_) | (refine wpList_loadL rfl 50 _ rfl (xi) (12) rfl #[.int .i64 it.box.lo.x, .int .i64 it.box.lo.y, .int .i64 it.box.lo.z, .int .i64 it.box.hi.x, .int .i64 it.box.hi.y, .int .i64 it.box.hi.z] agg50 H6.out ?_))
    refine KX.out.mono ?_
    rintro e z3 ⟨rfl, bel⟩
    clear KX H6
    clear br_
    replace BS := mB BS bel
    replace BC := mB BC bel
    replace BR := mB BR bel
    replace BI := mB BI bel
    replace G0 := Lib.hid (G0.out.below bel)
    replace OF := Lib.hid (OF.out.below bel)
    replace XF := Lib.hid (XF.out.below bel)
    replace XI := Lib.hid (XI.out.below bel)
    replace HB := mT HB bel
    clear bel
    go_upto_region 12 with fail
    obtain ⟨z4, xh, hz, hx', BH, bA⟩ := laidB z3 56 #[.int .i64 ((max (first (shX0 c.Cm (c.fbox it.box))) X0)), .int .i64 ((max (first (shY0 c.Cm (c.fbox it.box))) Y0)), .int .i64 ((min (last (shX1 c.Cm (c.fbox it.box))) X1)), .int .i64 ((min (last (shY1 c.Cm (c.fbox it.box))) Y1)), .int .i64 ((16777216 / (c.fbox it.box).lo.z))]
    rw [← hz.out, ← hx'.out]
    replace BS := mB BS bA
    replace BC := mB BC bA
    replace BR := mB BR bA
    replace BI := mB BI bA
    replace G0 := Lib.hid (G0.out.below bA)
    replace OF := Lib.hid (OF.out.below bA)
    replace XF := Lib.hid (XF.out.below bA)
    replace XI := Lib.hid (XI.out.below bA)
    replace HB := mT HB bA
    clear hz hx' bA
    have hD := HD.out
    have hbi := HBI.out
    have hfD := HFD.out
    have wd : IntKind.i64.wrap (f.D - it.look.bias) = f.D - it.look.bias := IntWalk.i64_in _ (by omega)
    have g9 : decide (16777216 / (c.fbox it.box).lo.z < f.D - it.look.bias) = false := decide_eq_false (by omega)
    clear hD hbi hfD
    have KI := Lib.hid (fun W => inr_ok (max (first (shX0 c.Cm (c.fbox it.box))) X0) (max (first (shY0 c.Cm (c.fbox it.box))) Y0) (min (last (shX1 c.Cm (c.fbox it.box))) X1) (min (last (shY1 c.Cm (c.fbox it.box))) Y1) x y (by have := HX.out; have := HY.out; have := HIN.out; unfold In at *; omega) W)
    have eF := fun pb : BW z4 => BW.cell XF.out.2.1 XF.out.1 pb
    have e0 := fun pb : BW z4 => BW.cell (BH.out.at 0 rfl) BH.out.lt pb
    have e1 := fun pb : BW z4 => BW.cell (BH.out.at 1 rfl) BH.out.lt pb
    have e2 := fun pb : BW z4 => BW.cell (BH.out.at 2 rfl) BH.out.lt pb
    have e3 := fun pb : BW z4 => BW.cell (BH.out.at 3 rfl) BH.out.lt pb
    have e4 := fun pb : BW z4 => BW.cell (BH.out.at 4 rfl) BH.out.lt pb
    have e5 := fun pb : BW z4 => BW.cell (BI.out.at 9 rfl) BI.out.lt pb
    have k1 := Lib.hid (fun pb : BW z4 => BW.call (v := .bool true) (fun W' (h : Below z4.heap.size z4 W') => KI.out W') pb)
    refine wp_region_quiet_bw (by kernel_rfl) (by kernel_rfl) ?_
    repeat (go_big_quiet_step ((go_at_call 7; with_reducible exact k1.out _)))
    refine wpQuiet_nil ?_
    intro _ hw'
    obtain ⟨pq, hw''⟩ := hw'
    subst hw''
    clear e0 e1 e2 e3 e4 e5 eF k1
    replace BS := mB BS pq.h
    replace BC := mB BC pq.h
    replace BR := mB BR pq.h
    replace BI := mB BI pq.h
    replace BH := mB BH pq.h
    replace G0 := Lib.hid (G0.out.below pq.h)
    replace OF := Lib.hid (OF.out.below pq.h)
    replace XF := Lib.hid (XF.out.below pq.h)
    replace XI := Lib.hid (XI.out.below pq.h)
    replace HB := mT HB pq.h
    generalize pq.W = z5 at *
    clear pq
    clear wd g9 KI XF XI BH BI
    have hb6 := HN6.out
    go_wp2
    go_roundw
    case rel => exact ⟨i + 1, by omega, by go_num, G0.out, OF.out, BS.out, BC.out, BR.out, HB.out⟩
    case measure => simp [intOf]; omega
end Go.Proofs.YtemopgpcpjnmkaaDoor
