/- top: Frags. -/
import Derived.Test.YtemopgpcpjnmkaaDoorT24
import Derived.Test.YtemopgpcpjnmkaaDoorT21
namespace Go.Proofs.YtemopgpcpjnmkaaDoor
open Go.RowKit
set_option linter.unusedVariables false
theorem T3.front_ok {t : T3} (ht : t.Ok) (hn : ¬ t.area = 0) : t.front.Ok ∧ 0 < t.front.area := by
  unfold T3.front
  split
  · refine ⟨⟨ht.1, ht.2.2, ht.2.1⟩, ?_⟩
    rename_i h
    unfold T3.area at *
    dsimp only
    omega
  · exact ⟨ht, by omega⟩
theorem getD_mem' {α : Type} {L : List α} {q : Nat} {d : α} (h : q < L.length) : L.getD q d ∈ L := by
  rw [List.getD_eq_getElem?_getD, List.getElem?_eq_getElem h]
  exact List.getElem_mem h
theorem It.pt_ok {c : CD} {it : It} {n : Int} {m : Int} (hc : c.Ok) (hi : it.Ok n) (h : 0 ≤ m ∧ m < it.V.length) : (it.pt c m.toNat).Ok :=
  CD.view_ok5 hc (hi.2.1.1 _ (getD_mem' (by omega))) (hi.2.1.2 _ (getD_mem' (by have := hi.1.1.2.1; omega)))
theorem parts_mem_ok {c : CD} {it : It} {n : Int} {tri : I3} {t : T3} (hc : c.Ok) (hi : it.Ok n) (ht : tri ∈ it.T) (h : t ∈ it.parts c tri) : t.Ok ∧ 0 < t.area := by
  have hT := hi.2.2.1 tri ht
  unfold It.parts at h
  obtain ⟨q, hq, h⟩ := List.mem_flatMap.1 h
  have h3 := near_ok3 hc.1.2.2.1 (It.pt_ok hc hi hT.1) (It.pt_ok hc hi hT.2.1) (It.pt_ok hc hi hT.2.2) hq
  unfold CD.shown at h
  split at h
  · rename_i hs
    obtain rfl := List.mem_singleton.1 h
    exact T3.front_ok (placed_ok hc h3) (shw_ne hs)
  · cases h
theorem pts_mem {c : CD} {s : Sh} {p : Pt} (h : p ∈ s.pts c) : ∃ (i : Nat) (it : It) (tri : I3), s.I[i]? = some it ∧ tri ∈ it.T ∧ p.t ∈ it.parts c tri ∧ p.D = it.look.bias ∧ p.i = (i : Int) := by
  unfold Sh.pts pts1 at h
  obtain ⟨i, hi, h⟩ := List.mem_flatMap.1 h
  have hi' := List.mem_range.1 hi
  unfold pts2 at h
  obtain ⟨k, hk, h⟩ := List.mem_flatMap.1 h
  have hk' := List.mem_range.1 hk
  unfold pts3 at h
  obtain ⟨j, hj, rfl⟩ := List.mem_map.1 h
  have hj' := List.mem_range.1 hj
  refine ⟨i, s.I.getD i It.zero, (s.I.getD i It.zero).T.getD k I3.zero, ?_, getD_mem' hk', getD_mem' hj', rfl, rfl⟩
  rw [List.getD_eq_getElem?_getD, List.getElem?_eq_getElem hi']
  rfl
theorem pts_ok {c : CD} {s : Sh} (hs : s.Ok) (hc : c.Ok) : ∀ p ∈ s.pts c, p.Ok := fun p hp => by
  obtain ⟨i, it, tri, hi, ht, hp, hD, _⟩ := pts_mem hp
  have hio := hs.2.2 it (List.mem_of_getElem? hi)
  have h := parts_mem_ok hc hio ht hp
  exact ⟨h.1, h.2, by rw [hD]; exact hio.1.2.2.2.2.1⟩
theorem pts_len {c : CD} {s : Sh} (hs : s.Ok) : (s.pts c).length ≤ 1000000 := by
  have h1 := pts1_len c s.I (fun i hi => (hs.2.2 i hi).1.1.2.2) s.I.length (Nat.le_refl _)
  have h2 := hs.1.1
  unfold Sh.pts
  omega
def Good (s : Sh) (c : CD) (x y : Int) : Prop := (s.Ok ∧ c.Ok) ∧ (0 ≤ x ∧ x < c.W) ∧ (0 ≤ y ∧ y < c.H)
theorem Good.pix {s : Sh} {c : CD} {x y : Int} (h : Good s c x y) : Pix x y := by
  obtain ⟨⟨_, hc⟩, hx, hy⟩ := h
  have h1 := hc.1.2.2.2.1
  have h2 := hc.1.2.2.2.2
  unfold Wi at h1 h2
  unfold Pix
  omega
/-- The fragments of a pixel. -/
def Sh.frags (s : Sh) (c : CD) (x y : Int) : List Fr := fragsTo (s.pts c) x y (s.pts c).length
/-- What 'at' gives. -/
def AtR (w : World) (s : Sh) (c : CD) (x y : Int) (e : Ending) (w' : World) : Prop :=
  (∃ q : Int, e = .returned (.tuple #[.agg #[.slice none 0 0, .slice none 0 0, .slice none 0 0], .int .i64 q]) ∧ ¬ q = 0 ∧ ¬ Good s c x y ∧ Below w.heap.size w w') ∨
  ∃ v, e = .returned (.tuple #[.agg #[.slice s.Ai s.I.length s.ci, .slice s.Ax s.X.length s.cx, v], .int .i64 0]) ∧ Good s c x y ∧ OwnL w' w.heap.size 89 21 Pt.cells (s.pts c) v ∧ Below w.heap.size w w'
/-- What 'Frags' gives. -/
def FragsR (w : World) (s : Sh) (c : CD) (x y : Int) (e : Ending) (w' : World) : Prop :=
  ∃ (q : Int) (v : Value), e = .returned (.tuple #[v, .int .i64 q]) ∧ (q = 0 ↔ Good s c x y) ∧ (q = 0 → OwnL w' w.heap.size 54 6 Fr.cells (s.frags c x y) v) ∧ Below w.heap.size w w'
theorem bld_67z (w : World) : (Instr.build 67 #[]).run Tryd.prog w = .ok (.agg #[.slice none 0 0, .slice none 0 0, .slice none 0 0]) w := by kernel_rfl
theorem grown_pre {a b c : World} {row : Option Nat} (h1 : Below a.heap.size a b) (h2 : b.grownBy c row) : a.grownBy c row :=
  ⟨h2.os.trans h1.os, h2.tape.trans h1.tape, h2.output.trans h1.output, Nat.le_trans h1.size h2.size, fun k hk hne => (h2.block k (Nat.lt_of_lt_of_le hk h1.size) hne).trans (h1.block k hk)⟩

set_option maxRecDepth 100000 in
set_option maxHeartbeats 16000000 in
theorem fr1_any (g : Nat) (f : Fr) (L : List Fr) (v : Value) (base : Nat) (hL : L.length ≤ 1000000) (w : World) (hbase : base ≤ w.heap.size) (h : HasBlk w g 36 #[v]) (ho : OwnL w base 54 6 Fr.cells L v) : Calls Tryd.prog 13 #[.agg #[.int .i64 f.D, .int .i64 f.i, .int .i64 f.k, .int .i64 f.j, .int .i64 f.u, .int .i64 f.v], .pointer (some ⟨g, 0, none⟩)] w fun e w' => e = .returned (.tuple #[]) ∧ ∃ w1 v', w.grownBy w1 v.ownBlock ∧ w' = w1.setCell ⟨g, 0, none⟩ v' ∧ HasBlk w1 g 36 #[v] ∧ OwnL w1 base 54 6 Fr.cells (L ++ [f]) v' := by
  have BG := Lib.hid h
  have OWN := Lib.hid ho
  have HBS := Lib.hid hbase
  clear h ho hbase
  obtain ⟨v0, hv0, BF, HB⟩ := lay1 w 54 #[.int .i64 f.D, .int .i64 f.i, .int .i64 f.k, .int .i64 f.j, .int .i64 f.u, .int .i64 f.v]
  replace BG := Lib.hid (BG.out.below HB.out)
  replace OWN := Lib.hid (OWN.out.below HB.out)
  go_enter Tryd.func13, Tryd.ntmps13
  go_upto_region 1 with fail
  rw [← hv0.out]
  clear hv0
  have g0 := BG.out.cell 0
  have gz := BG.out.lt
  have gf := BG.out.frozen 0
  simp at g0
  have NG := Lib.hid (OWN.out.ne BG.out (by decide))
  have bf_ := BF.out.c6
  go_wp2_with (at_builtin; refine wpList_appL rfl (.tmp 3) (.tmp 5) 36 rfl base inf36 (by decide) (by decide) Fr.cells Fr.len Fr.one L _ rfl (OWN.out.alloc _) f _ 1 rfl _ (hasBlk_new _ _ _) rfl hL (by have := HBS.out; have := HB.out.size; simp; omega) ?_; intro v9 r4 ho hgr hnb; obtain ⟨A9, n9, c9, hv9⟩ := ho.shape; subst hv9; have qB := (BG.out.alloc (.cells #[.int .i64 f.D, .int .i64 f.i, .int .i64 f.k, .int .i64 f.j, .int .i64 f.u, .int .i64 f.v] 54)).grown hgr NG.out; have jf := qB.frozen 0; have jz := qB.lt; have jc := qB.cell 0; simp at jc)
  go_end0
  exact ⟨rfl, r4, .slice A9 n9 c9, grown_pre (HB.out.alloc HB.out.size (.cells #[.int .i64 f.D, .int .i64 f.i, .int .i64 f.k, .int .i64 f.j, .int .i64 f.u, .int .i64 f.v] 54)) hgr, rfl, qB, ho⟩

set_option maxRecDepth 100000 in
set_option maxHeartbeats 32000000 in
theorem at_any (s : Sh) (c : CD) (x y : Int) (w : World) (hR : s.Rd w) : Calls Tryd.prog 11 #[.agg #[.slice s.Ai s.I.length s.ci, .slice s.Ax s.X.length s.cx], .agg #[.int .i64 c.p.x, .int .i64 c.p.y, .int .i64 c.p.z, .int .i64 (c.m 0), .int .i64 (c.m 1), .int .i64 (c.m 2), .int .i64 (c.m 3), .int .i64 (c.m 4), .int .i64 (c.m 5), .int .i64 (c.m 6), .int .i64 (c.m 7), .int .i64 (c.m 8), .int .i64 c.F, .int .i64 c.N, .int .i64 c.W, .int .i64 c.H], .int .i64 x, .int .i64 y] w fun e w' => AtR w s c x y e w' := by
  have HR := Lib.hid hR
  clear hR
  obtain ⟨v0, hv0, BS, BC, BZ, HB⟩ := lay3 w 25 #[.slice s.Ai s.I.length s.ci, .slice s.Ax s.X.length s.cx] 31 #[.int .i64 c.p.x, .int .i64 c.p.y, .int .i64 c.p.z, .int .i64 (c.m 0), .int .i64 (c.m 1), .int .i64 (c.m 2), .int .i64 (c.m 3), .int .i64 (c.m 4), .int .i64 (c.m 5), .int .i64 (c.m 6), .int .i64 (c.m 7), .int .i64 (c.m 8), .int .i64 c.F, .int .i64 c.N, .int .i64 c.W, .int .i64 c.H] 67 #[.slice none 0 0, .slice none 0 0, .slice none 0 0]
  replace HR := Lib.hid (HR.out.below HB.out)
  go_enter Tryd.func11, Tryd.ntmps11
  go_upto_region 1 with fail
  rw [← hv0.out]
  clear hv0
  have KX := Lib.hid (iasked_any s c v0 HR.out)
  have bs_ := BS.out.c2
  go_wp2_with (refine wpList_loadB rfl 31 _ rfl ((w.heap.size + 1)) rfl #[.int .i64 c.p.x, .int .i64 c.p.y, .int .i64 c.p.z, .int .i64 (c.m 0), .int .i64 (c.m 1), .int .i64 (c.m 2), .int .i64 (c.m 3), .int .i64 (c.m 4), .int .i64 (c.m 5), .int .i64 (c.m 6), .int .i64 (c.m 7), .int .i64 (c.m 8), .int .i64 c.F, .int .i64 c.N, .int .i64 c.W, .int .i64 c.H] agg31 BC.out ?_)
  refine KX.out.mono ?_
  rintro e v1 ⟨q, rfl, hq, bel⟩
  clear KX
  clear bs_
  have HQ := Lib.hid hq
  clear hq
  replace BS := mB BS bel
  replace BC := mB BC bel
  replace BZ := mB BZ bel
  replace HR := Lib.hid (HR.out.below bel)
  replace HB := mT HB bel
  clear bel
  have hb := bld_67z
  by_cases hq0 : q = 0
  rotate_left
  · have g0 : (q != 0) = true := by simp [hq0]
    have HX := Lib.hid (show ¬ Good s c x y from fun h => hq0 (HQ.out.2 h.1))
    have HQ0 := Lib.hid hq0
    clear hq0
    have bz_ := BZ.out.f3
    go_wp2
    refine bodyPost_ret (v := .tuple #[.agg #[.slice none 0 0, .slice none 0 0, .slice none 0 0], .int .i64 q]) (by simp [results, Tryd.results11, go_sem, *]) rfl (.inl ⟨q, rfl, HQ0.out, HX.out, ?_⟩)
    repeat (refine Below.setCell ?_ (by first | omega | (simp; done) | (simp; omega)) _)
    exact HB.out
  have HSC := Lib.hid (HQ.out.1 hq0)
  subst hq0
  clear HQ
  by_cases h0 : x < 0
  · have g0 : decide (x < 0) = true := decide_eq_true h0
    have HX := Lib.hid (show ¬ Good s c x y from fun h => by have := h.2.1.1; omega)
    clear h0
    have bc_ := BC.out.c16
    have bz_ := BZ.out.f3
    go_wp2
    refine bodyPost_ret (v := .tuple #[.agg #[.slice none 0 0, .slice none 0 0, .slice none 0 0], .int .i64 2]) (by simp [results, Tryd.results11, go_sem, *]) rfl (.inl ⟨2, rfl, (by decide), HX.out, ?_⟩)
    repeat (refine Below.setCell ?_ (by first | omega | (simp; done) | (simp; omega)) _)
    exact HB.out
  have g0 : decide (x < 0) = false := decide_eq_false h0
  by_cases h1 : c.W ≤ x
  · have g1 : decide (c.W ≤ x) = true := decide_eq_true h1
    have HX := Lib.hid (show ¬ Good s c x y from fun h => by have := h.2.1.2; omega)
    clear h0 h1
    have bc_ := BC.out.c16
    have bz_ := BZ.out.f3
    go_wp2
    refine bodyPost_ret (v := .tuple #[.agg #[.slice none 0 0, .slice none 0 0, .slice none 0 0], .int .i64 2]) (by simp [results, Tryd.results11, go_sem, *]) rfl (.inl ⟨2, rfl, (by decide), HX.out, ?_⟩)
    repeat (refine Below.setCell ?_ (by first | omega | (simp; done) | (simp; omega)) _)
    exact HB.out
  have g1 : decide (c.W ≤ x) = false := decide_eq_false h1
  by_cases h2 : y < 0
  · have g2 : decide (y < 0) = true := decide_eq_true h2
    have HX := Lib.hid (show ¬ Good s c x y from fun h => by have := h.2.2.1; omega)
    clear h0 h1 h2
    have bc_ := BC.out.c16
    have bz_ := BZ.out.f3
    go_wp2
    refine bodyPost_ret (v := .tuple #[.agg #[.slice none 0 0, .slice none 0 0, .slice none 0 0], .int .i64 2]) (by simp [results, Tryd.results11, go_sem, *]) rfl (.inl ⟨2, rfl, (by decide), HX.out, ?_⟩)
    repeat (refine Below.setCell ?_ (by first | omega | (simp; done) | (simp; omega)) _)
    exact HB.out
  have g2 : decide (y < 0) = false := decide_eq_false h2
  by_cases h3 : c.H ≤ y
  · have g3 : decide (c.H ≤ y) = true := decide_eq_true h3
    have HX := Lib.hid (show ¬ Good s c x y from fun h => by have := h.2.2.2; omega)
    clear h0 h1 h2 h3
    have bc_ := BC.out.c16
    have bz_ := BZ.out.f3
    go_wp2
    refine bodyPost_ret (v := .tuple #[.agg #[.slice none 0 0, .slice none 0 0, .slice none 0 0], .int .i64 2]) (by simp [results, Tryd.results11, go_sem, *]) rfl (.inl ⟨2, rfl, (by decide), HX.out, ?_⟩)
    repeat (refine Below.setCell ?_ (by first | omega | (simp; done) | (simp; omega)) _)
    exact HB.out
  have g3 : decide (c.H ≤ y) = false := decide_eq_false h3
  have HG := Lib.hid (show Good s c x y from ⟨HSC.out, ⟨by omega, by omega⟩, ⟨by omega, by omega⟩⟩)
  clear h0 h1 h2 h3 hb
  have bc_ := BC.out.c16
  go_upto_region 6 with fail
  clear bc_
  clear g0 g1 g2 g3
  have KX := Lib.hid (of_any s c HG.out.1.1 HG.out.1.2 v1 HR.out)
  have bs_ := BS.out.c2
  go_wp2_with (refine wpList_loadB rfl 31 _ rfl ((w.heap.size + 1)) rfl #[.int .i64 c.p.x, .int .i64 c.p.y, .int .i64 c.p.z, .int .i64 (c.m 0), .int .i64 (c.m 1), .int .i64 (c.m 2), .int .i64 (c.m 3), .int .i64 (c.m 4), .int .i64 (c.m 5), .int .i64 (c.m 6), .int .i64 (c.m 7), .int .i64 (c.m 8), .int .i64 c.F, .int .i64 c.N, .int .i64 c.W, .int .i64 c.H] agg31 BC.out ?_)
  have HBZ := Lib.hid HB.out.size
  refine KX.out.mono ?_
  rintro e v2 ⟨v, rfl, ho, bel⟩
  clear KX
  clear bs_
  have OO := Lib.hid (ho.low HBZ.out)
  clear ho HBZ
  replace BS := mB BS bel
  replace BC := mB BC bel
  replace BZ := mB BZ bel
  replace HR := Lib.hid (HR.out.below bel)
  replace HB := mT HB bel
  clear bel
  obtain ⟨A9, n9, c9, hv9⟩ := OO.out.shape
  subst hv9
  have NZ := OO.out.ne BZ.out (by decide)
  have bz_ := BZ.out.f3
  go_wp2
  refine bodyPost_ret (v := .tuple #[.agg #[.slice s.Ai s.I.length s.ci, .slice s.Ax s.X.length s.cx, .slice A9 n9 c9], .int .i64 0]) (by simp [results, Tryd.results11, go_sem, *]) rfl (.inr ⟨_, rfl, HG.out, ?_, ?_⟩)
  · exact ((OO.out.far (p := ⟨w.heap.size + 1 + 1, 0, none⟩) NZ _).far (p := ⟨w.heap.size + 1 + 1, 1, none⟩) NZ _).far (p := ⟨w.heap.size + 1 + 1, 2, none⟩) NZ _
  · ((repeat (refine Below.setCell ?_ (by first | omega | (simp; done) | (simp; omega)) _)); exact HB.out)

set_option maxRecDepth 100000 in
set_option maxHeartbeats 32000000 in
theorem Frags_any (s : Sh) (c : CD) (x y : Int) (w : World) (hR : s.Rd w) : Calls Tryd.prog 6 #[.agg #[.slice s.Ai s.I.length s.ci, .slice s.Ax s.X.length s.cx], .agg #[.int .i64 c.p.x, .int .i64 c.p.y, .int .i64 c.p.z, .int .i64 (c.m 0), .int .i64 (c.m 1), .int .i64 (c.m 2), .int .i64 (c.m 3), .int .i64 (c.m 4), .int .i64 (c.m 5), .int .i64 (c.m 6), .int .i64 (c.m 7), .int .i64 (c.m 8), .int .i64 c.F, .int .i64 c.N, .int .i64 c.W, .int .i64 c.H], .int .i64 x, .int .i64 y] w fun e w' => FragsR w s c x y e w' := by
  have HR := Lib.hid hR
  clear hR
  obtain ⟨v0, hv0, BS, BC, BL_, HB⟩ := lay3 w 25 #[.slice s.Ai s.I.length s.ci, .slice s.Ax s.X.length s.cx] 31 #[.int .i64 c.p.x, .int .i64 c.p.y, .int .i64 c.p.z, .int .i64 (c.m 0), .int .i64 (c.m 1), .int .i64 (c.m 2), .int .i64 (c.m 3), .int .i64 (c.m 4), .int .i64 (c.m 5), .int .i64 (c.m 6), .int .i64 (c.m 7), .int .i64 (c.m 8), .int .i64 c.F, .int .i64 c.N, .int .i64 c.W, .int .i64 c.H] 36 #[.slice none 0 0]
  replace HR := Lib.hid (HR.out.below HB.out)
  go_enter Tryd.func6, Tryd.ntmps6
  go_upto_region 1 with fail
  rw [← hv0.out]
  clear hv0
  have KX := Lib.hid (at_any s c x y v0 HR.out)
  have bs_ := BS.out.c2
  go_wp2_with (refine wpList_loadB rfl 31 _ rfl ((w.heap.size + 1)) rfl #[.int .i64 c.p.x, .int .i64 c.p.y, .int .i64 c.p.z, .int .i64 (c.m 0), .int .i64 (c.m 1), .int .i64 (c.m 2), .int .i64 (c.m 3), .int .i64 (c.m 4), .int .i64 (c.m 5), .int .i64 (c.m 6), .int .i64 (c.m 7), .int .i64 (c.m 8), .int .i64 c.F, .int .i64 c.N, .int .i64 c.W, .int .i64 c.H] agg31 BC.out ?_)
  have HBZ := Lib.hid HB.out.size
  refine KX.out.mono ?_
  rintro e v1 (⟨q, rfl, hq0, hng, bel⟩ | ⟨v, rfl, hg, ho, bel⟩)
  · clear KX
    clear bs_
    replace BS := mB BS bel
    replace BC := mB BC bel
    replace BL_ := mB BL_ bel
    replace HR := Lib.hid (HR.out.below bel)
    replace HB := mT HB bel
    clear bel
    have HQ0 := Lib.hid hq0
    have HNG := Lib.hid hng
    have g0 : (q == 0) = false := by simp [hq0]
    clear hq0 hng
    go_upto_region 2 with fail
    obtain ⟨v2, x10, hz, hx', BT_, bA⟩ := laidB v1 67 #[.slice none 0 0, .slice none 0 0, .slice none 0 0]
    rw [← hz.out, ← hx'.out]
    replace BS := mB BS bA
    replace BC := mB BC bA
    replace BL_ := mB BL_ bA
    replace HR := Lib.hid (HR.out.below bA)
    replace HB := mT HB bA
    clear hz hx' bA
    clear BT_
    have bl__ := BL_.out.f1
    go_wp2
    refine bodyPost_ret (v := .tuple #[.slice none 0 0, .int .i64 q]) (by simp [results, Tryd.results6, go_sem, *]) rfl ⟨q, _, rfl, ⟨fun h => absurd h HQ0.out, fun h => absurd h HNG.out⟩, fun h => absurd h HQ0.out, ?_⟩
    repeat (refine Below.setCell ?_ (by first | omega | (simp; done) | (simp; omega)) _)
    exact HB.out
  · clear KX
    clear bs_
    have OO := Lib.hid (ho.low HBZ.out)
    clear ho HBZ
    have HG := Lib.hid hg
    clear hg
    replace BS := mB BS bel
    replace BC := mB BC bel
    replace BL_ := mB BL_ bel
    replace HR := Lib.hid (HR.out.below bel)
    replace HB := mT HB bel
    clear bel
    obtain ⟨A9, n9, c9, hv9⟩ := OO.out.shape
    subst hv9
    obtain ⟨P, hP⟩ : ∃ P, P = s.pts c := ⟨_, rfl⟩
    rw [← hP] at OO
    obtain rfl : n9 = P.length := (OO.out.row Pt.len).1
    have HP := Lib.hid hP
    clear hP
    go_upto_region 2 with fail
    obtain ⟨v2, x10, hz, hx', BT_, bA⟩ := laidB v1 67 #[.slice s.Ai s.I.length s.ci, .slice s.Ax s.X.length s.cx, .slice A9 P.length c9]
    rw [← hz.out, ← hx'.out]
    replace BS := mB BS bA
    replace BC := mB BC bA
    replace BL_ := mB BL_ bA
    replace HR := Lib.hid (HR.out.below bA)
    replace OO := Lib.hid (OO.out.below bA)
    replace HB := mT HB bA
    clear hz hx' bA
    have HPOK := Lib.hid (show ∀ p ∈ P, p.Ok by rw [HP.out]; exact pts_ok HG.out.1.1 HG.out.1.2)
    have HPL := Lib.hid (show P.length ≤ 1000000 by rw [HP.out]; exact pts_len HG.out.1.1)
    have FB := Lib.hid (show HasBlk v2 (w.heap.size + 1 + 1) 36 #[.slice none 0 0] from BL_.out)
    have KX := Lib.hid (frags13 (w.heap.size + 1 + 1) P x y s.Ai s.Ax A9 s.I.length s.ci s.X.length s.cx c9 HPL.out HG.out.pix HPOK.out (fun k W => ∃ v, HasBlk W (w.heap.size + 1 + 1) 36 #[v] ∧ OwnL W w.heap.size 54 6 Fr.cells (fragsTo P x y k) v ∧ OwnL W w.heap.size 89 21 Pt.cells P (.slice A9 P.length c9) ∧ Below w.heap.size w W)
      (fun k W h => by
        obtain ⟨v, _, _, h3, _⟩ := h
        exact (h3.row Pt.len).2)
      (fun k W W' hb h => by
        obtain ⟨v, h1, h2, h3, h4⟩ := h
        exact ⟨v, h1.below hb, h2.below hb, h3.below hb, h4.trans (hb.mono h4.size)⟩)
      (fun k p W hpk hcov h => by
        obtain ⟨v, h1, h2, h3, h4⟩ := h
        refine (fr1_any (w.heap.size + 1 + 1) (p.frag x y) (fragsTo P x y k) v w.heap.size (Nat.le_trans (fragsTo_len P x y k) (by have := (List.getElem?_eq_some_iff.1 hpk).1; have := HPL.out; omega)) W h4.size h1 h2).mono ?_
        rintro e W' ⟨rfl, w1, v', hgr, rfl, hb1, ho1⟩
        have n3 := h3.ne_own h2 (by decide)
        have o3 := h3.grown hgr n3
        have hB1 := h2.bel h4 hgr (Nat.le_refl _) h4.size
        refine ⟨rfl, v', ?_, ?_, ?_, ?_⟩
        · simpa using hb1.set 0 v'
        · rw [fragsTo_yes hpk hcov]
          exact ho1.far (p := ⟨(w.heap.size + 1 + 1), 0, none⟩) (ho1.ne hb1 (by decide)) v'
        · exact o3.far (p := ⟨(w.heap.size + 1 + 1), 0, none⟩) (o3.ne hb1 (by decide)) v'
        · exact Below.setCell (p := ⟨(w.heap.size + 1 + 1), 0, none⟩) hB1 (by show w.heap.size ≤ w.heap.size + 1 + 1; omega) v')
      (fun k p W hpk hcov h => by
        rw [fragsTo_no hpk hcov]
        exact h)
      v2 ⟨_, FB.out, OwnL.nil _ _ _ _ _, OO.out, HB.out⟩)
    have bt__ := BT_.out.c3
    go_wp2_with fail
    refine KX.out.mono ?_
    rintro e v3 ⟨rfl, vf, hb, hof, hop, hB⟩
    clear KX
    clear bt__
    clear BS BC BL_ BT_ HR OO HB FB hop
    have HB := Lib.hid hB
    have FB := Lib.hid hb
    have OF := Lib.hid hof
    clear hB hb hof
    obtain ⟨A8, n8, c8, hv8⟩ := OF.out.shape
    subst hv8
    have NF := OF.out.ne FB.out (by decide)
    have b0 := FB.out.cell 0
    have bf := FB.out.frozen 0
    have bz := FB.out.lt
    simp at b0
    go_wp2
    refine bodyPost_ret (v := .tuple #[.slice A8 n8 c8, .int .i64 0]) (by simp [results, Tryd.results6, go_sem, *]) rfl ⟨0, _, rfl, ⟨fun _ => HG.out, fun _ => rfl⟩, fun _ => ?_, ?_⟩
    · have := OF.out
      rw [HP.out] at this
      exact this.far (p := ⟨w.heap.size + 1 + 1, 0, none⟩) NF _
    · ((repeat (refine Below.setCell ?_ (by first | omega | (simp; done) | (simp; omega)) _)); exact HB.out)
end Go.Proofs.YtemopgpcpjnmkaaDoor
