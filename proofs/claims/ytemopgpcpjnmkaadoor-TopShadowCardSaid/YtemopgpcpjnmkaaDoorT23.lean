/- top: the parts of a show. -/
import Derived.Test.YtemopgpcpjnmkaaDoorT22
import Derived.Test.YtemopgpcpjnmkaaDoorLoad
namespace Go.Proofs.YtemopgpcpjnmkaaDoor
open Go.RowKit
set_option linter.unusedVariables false
/-- A part, and whose it is. -/
structure Pt where
  t : T3
  D : Int
  i : Int
  k : Int
  j : Int
def Pt.cells (p : Pt) : List Value := [.int .i64 p.t.a.x, .int .i64 p.t.a.y, .int .i64 p.t.a.d, .int .i64 p.t.a.u, .int .i64 p.t.a.v, .int .i64 p.t.b.x, .int .i64 p.t.b.y, .int .i64 p.t.b.d, .int .i64 p.t.b.u, .int .i64 p.t.b.v, .int .i64 p.t.c.x, .int .i64 p.t.c.y, .int .i64 p.t.c.d, .int .i64 p.t.c.u, .int .i64 p.t.c.v, .int .i64 p.D, .int .i64 p.i, .int .i64 p.k, .int .i64 p.j, .int .i64 0, .int .i64 0]
theorem Pt.len (a : Pt) : a.cells.length = 21 := rfl
theorem Pt.one (a : Pt) : ∀ u ∈ a.cells, u.oneCell' = true := by simp [Pt.cells, Value.oneCell']
theorem inf65 : Inf Tryd.prog 65 89 21 168 := ⟨by kernel_rfl, by kernel_rfl⟩
def S5.zero : S5 := ⟨0, 0, 0, 0, 0⟩
def T3.zero : T3 := ⟨S5.zero, S5.zero, S5.zero⟩
def I3.zero : I3 := ⟨0, 0, 0⟩
def It.zero : It := ⟨[], [], [], ⟨0, 0, 0, 0, 0, 0, 0, false, 0⟩, B3.zero, none, 0, none, 0, none, 0⟩
def pts3 (D i k : Int) (P : List T3) (n : Nat) : List Pt := (List.range n).map fun (j : Nat) => ⟨P.getD j T3.zero, D, i, k, (j : Int)⟩
def pts2 (c : CD) (it : It) (i : Int) (n : Nat) : List Pt := (List.range n).flatMap fun (k : Nat) => pts3 it.look.bias i (k : Int) (it.parts c (it.T.getD k I3.zero)) (it.parts c (it.T.getD k I3.zero)).length
def pts1 (c : CD) (I : List It) (n : Nat) : List Pt := (List.range n).flatMap fun (i : Nat) => pts2 c (I.getD i It.zero) (i : Int) (I.getD i It.zero).T.length
/-- The parts of a show. -/
def Sh.pts (c : CD) (s : Sh) : List Pt := pts1 c s.I s.I.length
theorem pts3_succ (D i k : Int) (P : List T3) (n : Nat) : pts3 D i k P (n + 1) = pts3 D i k P n ++ [⟨P.getD n T3.zero, D, i, k, (n : Int)⟩] := by unfold pts3; rw [List.range_succ, List.map_append]; rfl
theorem pts2_succ (c : CD) (it : It) (i : Int) (n : Nat) : pts2 c it i (n + 1) = pts2 c it i n ++ pts3 it.look.bias i (n : Int) (it.parts c (it.T.getD n I3.zero)) (it.parts c (it.T.getD n I3.zero)).length := by unfold pts2; rw [List.range_succ, List.flatMap_append]; simp
theorem pts1_succ (c : CD) (I : List It) (n : Nat) : pts1 c I (n + 1) = pts1 c I n ++ pts2 c (I.getD n It.zero) (n : Int) (I.getD n It.zero).T.length := by unfold pts1; rw [List.range_succ, List.flatMap_append]; simp
theorem parts_len (c : CD) (it : It) (t : I3) : (it.parts c t).length ≤ 4 := Nat.le_trans (shown_len c it.look.cull _) (near_len _ _)
theorem pts3_len (D i k : Int) (P : List T3) (n : Nat) : (pts3 D i k P n).length = n := by unfold pts3; simp
theorem pts2_len (c : CD) (it : It) (i : Int) : ∀ n, (pts2 c it i n).length ≤ 4 * n
  | 0 => by simp [pts2]
  | n + 1 => by
    have := pts2_len c it i n
    have := parts_len c it (it.T.getD n I3.zero)
    rw [pts2_succ, List.length_append, pts3_len]
    omega
theorem pts1_len (c : CD) (I : List It) (h : ∀ i ∈ I, i.T.length ≤ 64) : ∀ n, n ≤ I.length → (pts1 c I n).length ≤ 256 * n
  | 0, _ => by simp [pts1]
  | n + 1, hn => by
    have := pts1_len c I h n (by omega)
    have h2 := pts2_len c (I.getD n It.zero) (n : Int) (I.getD n It.zero).T.length
    have h3 : (I.getD n It.zero).T.length ≤ 64 := by
      rw [List.getD_eq_getElem?_getD, List.getElem?_eq_getElem (by omega)]
      exact h _ (List.getElem_mem _)
    rw [pts1_succ, List.length_append]
    omega
/-- What 'of' gives. -/
def OfR (w : World) (s : Sh) (c : CD) (e : Ending) (w' : World) : Prop := ∃ v, e = .returned (.agg #[.slice s.Ai s.I.length s.ci, .slice s.Ax s.X.length s.cx, v]) ∧ OwnL w' w.heap.size 89 21 Pt.cells (s.pts c) v ∧ Below w.heap.size w w'
theorem agg25 : Agg Tryd.prog 25 2 := ⟨_, Tryd.underlying25, rfl, by kernel_rfl⟩
theorem bld_67 (A B : Option Addr) (n c m d : Nat) (w : World) : (Instr.build 67 #[(0, .agg #[.slice A n c, .slice B m d])]).run Tryd.prog w = .ok (.agg #[.slice A n c, .slice B m d, .slice none 0 0]) w := by kernel_rfl
theorem bld_54 (a b c d : Int) (w : World) : (Instr.build 54 #[(0, .int .i64 a), (1, .int .i64 b), (2, .int .i64 c), (3, .int .i64 d)]).run Tryd.prog w = .ok (.agg #[.int .i64 a, .int .i64 b, .int .i64 c, .int .i64 d, .int .i64 0, .int .i64 0]) w := by kernel_rfl
theorem bld_89 (x0 x1 x2 x3 x4 x5 x6 x7 x8 x9 xa xb xc xd xe a b c d : Int) (w : World) : (Instr.build 89 #[(0, .agg #[.int .i64 x0, .int .i64 x1, .int .i64 x2, .int .i64 x3, .int .i64 x4, .int .i64 x5, .int .i64 x6, .int .i64 x7, .int .i64 x8, .int .i64 x9, .int .i64 xa, .int .i64 xb, .int .i64 xc, .int .i64 xd, .int .i64 xe]), (1, .agg #[.int .i64 a, .int .i64 b, .int .i64 c, .int .i64 d, .int .i64 0, .int .i64 0])]).run Tryd.prog w = .ok (.agg #[.int .i64 x0, .int .i64 x1, .int .i64 x2, .int .i64 x3, .int .i64 x4, .int .i64 x5, .int .i64 x6, .int .i64 x7, .int .i64 x8, .int .i64 x9, .int .i64 xa, .int .i64 xb, .int .i64 xc, .int .i64 xd, .int .i64 xe, .int .i64 a, .int .i64 b, .int .i64 c, .int .i64 d, .int .i64 0, .int .i64 0]) w := by kernel_rfl

set_option maxRecDepth 100000 in
set_option maxHeartbeats 32000000 in
theorem of_any (s : Sh) (c : CD) (hs : s.Ok) (hc : c.Ok) (w : World) (hR : s.Rd w) : Calls Tryd.prog 21 #[.agg #[.slice s.Ai s.I.length s.ci, .slice s.Ax s.X.length s.cx], .agg #[.int .i64 c.p.x, .int .i64 c.p.y, .int .i64 c.p.z, .int .i64 (c.m 0), .int .i64 (c.m 1), .int .i64 (c.m 2), .int .i64 (c.m 3), .int .i64 (c.m 4), .int .i64 (c.m 5), .int .i64 (c.m 6), .int .i64 (c.m 7), .int .i64 (c.m 8), .int .i64 c.F, .int .i64 c.N, .int .i64 c.W, .int .i64 c.H]] w fun e w' => OfR w s c e w' := by
  obtain ⟨I, X, Ai, ci, Ax, cx⟩ := s
  have HS := Lib.hid hs
  have HC := Lib.hid hc
  have HR := Lib.hid hR
  dsimp only
  have HTL := Lib.hid (show ∀ i ∈ I, i.T.length ≤ 64 from fun i hi => (hs.2.2 i hi).1.1.2.2)
  have HIL := Lib.hid (show I.length ≤ 256 from hs.1.1)
  clear hs hc hR
  obtain ⟨nI, hnI⟩ : ∃ n, n = I.length := ⟨_, rfl⟩
  obtain ⟨nX, hnX⟩ : ∃ n, n = X.length := ⟨_, rfl⟩
  rw [← hnI, ← hnX]
  have HNI := Lib.hid hnI
  have HNX := Lib.hid hnX
  clear hnI hnX
  have hI256 : nI ≤ 256 := by rw [HNI.out]; exact HIL.out
  have HI256 := Lib.hid hI256
  clear hI256
  obtain ⟨v0, hv0, BS, BC, BR, HB⟩ := lay3 w 25 #[.slice Ai nI ci, .slice Ax nX cx] 31 #[.int .i64 c.p.x, .int .i64 c.p.y, .int .i64 c.p.z, .int .i64 (c.m 0), .int .i64 (c.m 1), .int .i64 (c.m 2), .int .i64 (c.m 3), .int .i64 (c.m 4), .int .i64 (c.m 5), .int .i64 (c.m 6), .int .i64 (c.m 7), .int .i64 (c.m 8), .int .i64 c.F, .int .i64 c.N, .int .i64 c.W, .int .i64 c.H] 67 #[.slice none 0 0, .slice none 0 0, .slice none 0 0]
  go_enter Tryd.func21, Tryd.ntmps21
  go_upto_region 1 with fail
  rw [← hv0.out]
  clear hv0
  have hb67 := bld_67 Ai Ax nI ci nX cx
  have bs_ := BS.out.c2
  go_upto_region 2 with fail
  clear bs_
  have LO := Lib.hid (show w.heap.size + 2 < v0.heap.size from BR.out.lt)
  obtain ⟨v1, xo, hz, hx', BO, bA⟩ := laidB v0 67 #[.slice Ai nI ci, .slice Ax nX cx, .slice none 0 0]
  rw [← hz.out, ← hx'.out]
  rw [← hx'.out] at LO
  replace BS := mB BS bA
  replace BC := mB BC bA
  replace BR := mB BR bA
  replace HB := mT HB bA
  clear hz hx' bA
  clear hb67
  have bs_ := BS.out.c2
  go_wp2
  clear bs_
  have OWN := Lib.hid (OwnL.nil v1 w.heap.size 89 21 Pt.cells)
  go_loopw [16] (fun s16 wr => ∃ (i : Nat) (vo : Value), i ≤ nI ∧ s16 = .int .i64 (i : Int) ∧ OwnL wr w.heap.size 89 21 Pt.cells (pts1 c I i) vo ∧ HasBlk wr w.heap.size 25 #[.slice Ai nI ci, .slice Ax nX cx] ∧ HasBlk wr (w.heap.size + 1) 31 #[.int .i64 c.p.x, .int .i64 c.p.y, .int .i64 c.p.z, .int .i64 (c.m 0), .int .i64 (c.m 1), .int .i64 (c.m 2), .int .i64 (c.m 3), .int .i64 (c.m 4), .int .i64 (c.m 5), .int .i64 (c.m 6), .int .i64 (c.m 7), .int .i64 (c.m 8), .int .i64 c.F, .int .i64 c.N, .int .i64 c.W, .int .i64 c.H] ∧ HasBlk wr (w.heap.size + 1 + 1) 67 #[.slice none 0 0, .slice none 0 0, .slice none 0 0] ∧ HasBlk wr xo 67 #[.slice Ai nI ci, .slice Ax nX cx, vo] ∧ Below w.heap.size w wr) (fun s16 wr => nI - (intOf s16).toNat)
  case atStart => exact ⟨0, _, Nat.zero_le _, rfl, OWN.out, BS.out, BC.out, BR.out, BO.out, HB.out⟩
  case round =>
    clear OWN BS BC BR BO HB
    obtain ⟨i, vo, hi, rfl, qOW, qBS, qBC, qBR, qBO, qHB⟩ := hrel
    have BS := Lib.hid qBS
    have BC := Lib.hid qBC
    have BR := Lib.hid qBR
    have BO := Lib.hid qBO
    have HB := Lib.hid qHB
    clear qBS qBC qBR qBO qHB
    have OWN := Lib.hid qOW
    clear qOW
    by_cases hin : i < nI
    rotate_left
    · skip
      obtain rfl : nI = i := by omega
      have d0 : decide ((nI : Int) < (nI : Int)) = false := by simp
      obtain ⟨A9, n9, c9, hv9⟩ := OWN.out.shape
      subst hv9
      have bo_ := BO.out.c3
      have br_ := BR.out.f3
      have ow := OWN.out
      have NRB := OWN.out.ne BR.out (by decide)
      rw [HNI.out] at ow
      go_wp2
      refine bodyPost_ret (v := .agg #[.slice Ai nI ci, .slice Ax nX cx, .slice A9 n9 c9]) (by simp [results, Tryd.results21, go_sem, *]) rfl ?_
      refine ⟨.slice A9 n9 c9, by rw [HNI.out, HNX.out], ?_, ?_⟩
      · exact ((ow.far (p := ⟨w.heap.size + 1 + 1, 0, none⟩) NRB _).far (p := ⟨w.heap.size + 1 + 1, 1, none⟩) NRB _).far (p := ⟨w.heap.size + 1 + 1, 2, none⟩) NRB _
      · ((repeat (refine Below.setCell ?_ (by first | omega | (simp; done) | (simp; omega)) _)); exact HB.out)
    have d0 : decide ((i : Int) < (nI : Int)) = true := decide_eq_true (by omega)
    have ii1 : (i : Int) < (nI : Int) := by omega
    have ii0 : (0 : Int) ≤ (i : Int) := by omega
    obtain ⟨it, hit⟩ : ∃ it, I[i]? = some it := ⟨_, List.getElem?_eq_getElem (by rw [← HNI.out]; exact hin)⟩
    obtain ⟨gi, oi, hAi, hgi, hci⟩ := HR.out.1.below HB.out (by show 0 < I.length; rw [← HNI.out]; omega)
    dsimp only at hAi
    subst hAi
    have HIT := Lib.hid hit
    have HGD := Lib.hid (show I.getD i It.zero = it by rw [List.getD_eq_getElem?_getD, hit]; rfl)
    clear hit
    obtain ⟨nt, hnt⟩ : ∃ n, n = it.T.length := ⟨_, rfl⟩
    have HNT := Lib.hid hnt
    have HT64 := Lib.hid (show nt ≤ 64 by rw [hnt]; exact HTL.out _ (List.mem_of_getElem? HIT.out))
    clear hnt
    have HCI := Lib.hid (show ∀ j u, (#[.slice it.Av it.V.length it.cv, .slice it.Au it.U.length it.cu, .slice it.At nt it.ct, .int .u8 it.look.c0, .int .u8 it.look.c1, .int .u8 it.look.c2, .int .u8 it.look.c3, .int .i64 it.look.tex, .int .u8 it.look.cull, .int .i64 it.look.bias, .bool it.look.blend, .int .i64 it.look.bin, .int .i64 it.box.lo.x, .int .i64 it.box.lo.y, .int .i64 it.box.lo.z, .int .i64 it.box.hi.x, .int .i64 it.box.hi.y, .int .i64 it.box.hi.z] : Array Value).toList[j]? = some u → wr.cell? ⟨gi, oi + i * 18 + j, none⟩ = some u from by
      rw [HNT.out]
      exact fun j u hj => hci i it HIT.out j u hj)
    clear hci
    go_upto_region 5 with (first | (refine wpList_loadL rfl 52 _ rfl (gi) (oi + i * 18) rfl #[.slice it.Av it.V.length it.cv, .slice it.Au it.U.length it.cu, .slice it.At nt it.ct, .int .u8 it.look.c0, .int .u8 it.look.c1, .int .u8 it.look.c2, .int .u8 it.look.c3, .int .i64 it.look.tex, .int .u8 it.look.cull, .int .i64 it.look.bias, .bool it.look.blend, .int .i64 it.look.bin, .int .i64 it.box.lo.x, .int .i64 it.box.lo.y, .int .i64 it.box.lo.z, .int .i64 it.box.hi.x, .int .i64 it.box.hi.y, .int .i64 it.box.hi.z] agg52 HCI.out ?_) | (refine wpList_storeN rfl 52 _ _ rfl #[.slice none 0 0, .slice none 0 0, .slice none 0 0, .int .u8 0, .int .u8 0, .int .u8 0, .int .u8 0, .int .i64 0, .int .u8 0, .int .i64 0, .bool false, .int .i64 0, .int .i64 0, .int .i64 0, .int .i64 0, .int .i64 0, .int .i64 0, .int .i64 0] #[.slice it.Av it.V.length it.cv, .slice it.Au it.U.length it.cu, .slice it.At nt it.ct, .int .u8 it.look.c0, .int .u8 it.look.c1, .int .u8 it.look.c2, .int .u8 it.look.c3, .int .i64 it.look.tex, .int .u8 it.look.cull, .int .i64 it.look.bias, .bool it.look.blend, .int .i64 it.look.bin, .int .i64 it.box.lo.x, .int .i64 it.box.lo.y, .int .i64 it.box.lo.z, .int .i64 it.box.hi.x, .int .i64 it.box.hi.y, .int .i64 it.box.hi.z] rfl rfl (by kernel_rfl) rfl (by simp [Value.oneCell']) ?_))
    have LI := Lib.hid (show xo < wr.heap.size from BO.out.lt)
    obtain ⟨p1, xi, hz, hx', BI, bA⟩ := laidB wr 52 #[.slice it.Av it.V.length it.cv, .slice it.Au it.U.length it.cu, .slice it.At nt it.ct, .int .u8 it.look.c0, .int .u8 it.look.c1, .int .u8 it.look.c2, .int .u8 it.look.c3, .int .i64 it.look.tex, .int .u8 it.look.cull, .int .i64 it.look.bias, .bool it.look.blend, .int .i64 it.look.bin, .int .i64 it.box.lo.x, .int .i64 it.box.lo.y, .int .i64 it.box.lo.z, .int .i64 it.box.hi.x, .int .i64 it.box.hi.y, .int .i64 it.box.hi.z]
    rw [← hz.out, ← hx'.out]
    rw [← hx'.out] at LI
    replace BS := mB BS bA
    replace BC := mB BC bA
    replace BR := mB BR bA
    replace BO := mB BO bA
    replace OWN := Lib.hid (OWN.out.below bA)
    replace HB := mT HB bA
    clear hz hx' bA
    clear HCI hgi ii1 ii0
    have bi_ := BI.out.c18
    go_wp2
    clear bi_
    clear d0
    obtain ⟨wo, rfl⟩ : ∃ wo : World, wo = p1 := ⟨_, rfl⟩
    go_loopw [24] (fun s24 wr => ∃ (k : Nat) (vo : Value), k ≤ nt ∧ s24 = .int .i64 (k : Int) ∧ OwnL wr w.heap.size 89 21 Pt.cells (pts1 c I i ++ pts2 c it (i : Int) k) vo ∧ HasBlk wr w.heap.size 25 #[.slice (some ⟨gi, oi, none⟩) nI ci, .slice Ax nX cx] ∧ HasBlk wr (w.heap.size + 1) 31 #[.int .i64 c.p.x, .int .i64 c.p.y, .int .i64 c.p.z, .int .i64 (c.m 0), .int .i64 (c.m 1), .int .i64 (c.m 2), .int .i64 (c.m 3), .int .i64 (c.m 4), .int .i64 (c.m 5), .int .i64 (c.m 6), .int .i64 (c.m 7), .int .i64 (c.m 8), .int .i64 c.F, .int .i64 c.N, .int .i64 c.W, .int .i64 c.H] ∧ HasBlk wr (w.heap.size + 1 + 1) 67 #[.slice none 0 0, .slice none 0 0, .slice none 0 0] ∧ HasBlk wr xo 67 #[.slice (some ⟨gi, oi, none⟩) nI ci, .slice Ax nX cx, vo] ∧ HasBlk wr xi 52 #[.slice it.Av it.V.length it.cv, .slice it.Au it.U.length it.cu, .slice it.At nt it.ct, .int .u8 it.look.c0, .int .u8 it.look.c1, .int .u8 it.look.c2, .int .u8 it.look.c3, .int .i64 it.look.tex, .int .u8 it.look.cull, .int .i64 it.look.bias, .bool it.look.blend, .int .i64 it.look.bin, .int .i64 it.box.lo.x, .int .i64 it.box.lo.y, .int .i64 it.box.lo.z, .int .i64 it.box.hi.x, .int .i64 it.box.hi.y, .int .i64 it.box.hi.z] ∧ Below w.heap.size w wr) (fun s24 wr => nt - (intOf s24).toNat)
    case atStart => exact ⟨0, _, Nat.zero_le _, rfl, by rw [show pts2 c it (i : Int) 0 = [] from rfl, List.append_nil]; exact OWN.out, BS.out, BC.out, BR.out, BO.out, BI.out, HB.out⟩
    case round =>
      clear OWN BS BC BR BO BI HB
      obtain ⟨k, vo, hk, rfl, qOW, qBS, qBC, qBR, qBO, qBI, qHB⟩ := hrel
      have BS := Lib.hid qBS
      have BC := Lib.hid qBC
      have BR := Lib.hid qBR
      have BO := Lib.hid qBO
      have BI := Lib.hid qBI
      have HB := Lib.hid qHB
      clear qBS qBC qBR qBO qBI qHB
      have OWN := Lib.hid qOW
      clear qOW
      by_cases hkn : k < nt
      rotate_left
      · skip
        obtain rfl : nt = k := by omega
        have d0 : decide ((nt : Int) < (nt : Int)) = false := by simp
        have ow := OWN.out
        rw [HNT.out, show pts1 c I i ++ pts2 c it (i : Int) it.T.length = pts1 c I (i + 1) by rw [pts1_succ, HGD.out]] at ow
        clear BI
        have hbb := HI256.out
        go_wp2
        go_roundw
        case rel => exact ⟨i + 1, vo, by omega, by go_num, ow, BS.out, BC.out, BR.out, BO.out, HB.out⟩
        case measure => simp [intOf]; omega
      have d0 : decide ((k : Int) < (nt : Int)) = true := decide_eq_true (by omega)
      obtain ⟨tri, htri⟩ : ∃ t, it.T[k]? = some t := ⟨_, List.getElem?_eq_getElem (by rw [← HNT.out]; exact hkn)⟩
      have HTG := Lib.hid (show it.T.getD k I3.zero = tri by rw [List.getD_eq_getElem?_getD, htri]; rfl)
      have KX := Lib.hid (parts_ok ⟨I, X, some ⟨gi, oi, none⟩, ci, Ax, cx⟩ c i k it tri HS.out HC.out HIT.out htri wr (HR.out.below HB.out))
      dsimp only at KX
      rw [← HNI.out, ← HNX.out] at KX
      clear htri
      have bs_ := BS.out.c2
      go_wp2_with (refine wpList_loadB rfl 31 _ rfl ((w.heap.size + 1)) rfl #[.int .i64 c.p.x, .int .i64 c.p.y, .int .i64 c.p.z, .int .i64 (c.m 0), .int .i64 (c.m 1), .int .i64 (c.m 2), .int .i64 (c.m 3), .int .i64 (c.m 4), .int .i64 (c.m 5), .int .i64 (c.m 6), .int .i64 (c.m 7), .int .i64 (c.m 8), .int .i64 c.F, .int .i64 c.N, .int .i64 c.W, .int .i64 c.H] agg31 BC.out ?_)
      refine KX.out.mono ?_
      rintro e q1 ⟨vp, rfl, qP, bel⟩
      clear KX
      clear bs_
      have qP' := qP.low HB.out.size
      clear qP
      replace BS := mB BS bel
      replace BC := mB BC bel
      replace BR := mB BR bel
      replace BO := mB BO bel
      replace BI := mB BI bel
      replace OWN := Lib.hid (OWN.out.below bel)
      replace HB := mT HB bel
      clear bel
      obtain ⟨P, hP⟩ : ∃ P, P = it.parts c tri := ⟨_, rfl⟩
      rw [← hP] at qP'
      have HP := Lib.hid hP
      have HPL := Lib.hid (show P.length ≤ 4 by rw [hP]; exact parts_len _ _ _)
      clear hP
      obtain ⟨⟨AP, cp, hvp⟩, qo⟩ := id qP'
      clear qo
      subst hvp
      obtain ⟨m, hm⟩ : ∃ m, m = P.length := ⟨_, rfl⟩
      rw [← hm] at qP' HPL ⊢
      have HM := Lib.hid hm
      clear hm
      have PO := Lib.hid qP'
      clear qP'
      go_wp2
      obtain ⟨w2, rfl⟩ : ∃ w2 : World, w2 = q1 := ⟨_, rfl⟩
      clear d0
      go_loopw [33] (fun s33 wr => ∃ (j : Nat) (vo : Value), j ≤ m ∧ s33 = .int .i64 (j : Int) ∧ OwnL wr w.heap.size 89 21 Pt.cells ((pts1 c I i ++ pts2 c it (i : Int) k) ++ pts3 it.look.bias (i : Int) (k : Int) P j) vo ∧ OwnL wr w.heap.size 87 15 T3.cells P (.slice AP m cp) ∧ HasBlk wr w.heap.size 25 #[.slice (some ⟨gi, oi, none⟩) nI ci, .slice Ax nX cx] ∧ HasBlk wr (w.heap.size + 1) 31 #[.int .i64 c.p.x, .int .i64 c.p.y, .int .i64 c.p.z, .int .i64 (c.m 0), .int .i64 (c.m 1), .int .i64 (c.m 2), .int .i64 (c.m 3), .int .i64 (c.m 4), .int .i64 (c.m 5), .int .i64 (c.m 6), .int .i64 (c.m 7), .int .i64 (c.m 8), .int .i64 c.F, .int .i64 c.N, .int .i64 c.W, .int .i64 c.H] ∧ HasBlk wr (w.heap.size + 1 + 1) 67 #[.slice none 0 0, .slice none 0 0, .slice none 0 0] ∧ HasBlk wr xo 67 #[.slice (some ⟨gi, oi, none⟩) nI ci, .slice Ax nX cx, vo] ∧ HasBlk wr xi 52 #[.slice it.Av it.V.length it.cv, .slice it.Au it.U.length it.cu, .slice it.At nt it.ct, .int .u8 it.look.c0, .int .u8 it.look.c1, .int .u8 it.look.c2, .int .u8 it.look.c3, .int .i64 it.look.tex, .int .u8 it.look.cull, .int .i64 it.look.bias, .bool it.look.blend, .int .i64 it.look.bin, .int .i64 it.box.lo.x, .int .i64 it.box.lo.y, .int .i64 it.box.lo.z, .int .i64 it.box.hi.x, .int .i64 it.box.hi.y, .int .i64 it.box.hi.z] ∧ Below w.heap.size w wr) (fun s33 wr => m - (intOf s33).toNat)
      case atStart => exact ⟨0, _, Nat.zero_le _, rfl, by rw [show pts3 it.look.bias (i : Int) (k : Int) P 0 = [] from rfl, List.append_nil]; exact OWN.out, PO.out, BS.out, BC.out, BR.out, BO.out, BI.out, HB.out⟩
      case round =>
        clear OWN PO BS BC BR BO BI HB
        obtain ⟨j, vo, hj, rfl, qOW, qPO, qBS, qBC, qBR, qBO, qBI, qHB⟩ := hrel
        have BS := Lib.hid qBS
        have BC := Lib.hid qBC
        have BR := Lib.hid qBR
        have BO := Lib.hid qBO
        have BI := Lib.hid qBI
        have HB := Lib.hid qHB
        clear qBS qBC qBR qBO qBI qHB
        have OWN := Lib.hid qOW
        have PO := Lib.hid qPO
        clear qOW qPO
        by_cases hjn : j < m
        rotate_left
        · skip
          obtain rfl : m = j := by omega
          have d0 : decide ((m : Int) < (m : Int)) = false := by simp
          have ow := OWN.out
          rw [HM.out, List.append_assoc, show pts2 c it (i : Int) k ++ pts3 it.look.bias (i : Int) (k : Int) P P.length = pts2 c it (i : Int) (k + 1) by rw [pts2_succ, HTG.out, ← HP.out]] at ow
          have hbb := HT64.out
          go_wp2
          go_roundw
          case rel => exact ⟨k + 1, vo, by omega, by go_num, ow, BS.out, BC.out, BR.out, BO.out, BI.out, HB.out⟩
          case measure => simp [intOf]; omega
        have d0 : decide ((j : Int) < (m : Int)) = true := decide_eq_true (by omega)
        have ij1 : (j : Int) < (m : Int) := by omega
        have ij0 : (0 : Int) ≤ (j : Int) := by omega
        obtain ⟨tt, htt⟩ : ∃ t, P[j]? = some t := ⟨_, List.getElem?_eq_getElem (by rw [← HM.out]; exact hjn)⟩
        obtain ⟨g, o, rfl, hg, hcp⟩ := (PO.out.row T3.len).2 (by rw [← HM.out]; omega)
        have HCP := Lib.hid (show ∀ e u, (#[.int .i64 tt.a.x, .int .i64 tt.a.y, .int .i64 tt.a.d, .int .i64 tt.a.u, .int .i64 tt.a.v, .int .i64 tt.b.x, .int .i64 tt.b.y, .int .i64 tt.b.d, .int .i64 tt.b.u, .int .i64 tt.b.v, .int .i64 tt.c.x, .int .i64 tt.c.y, .int .i64 tt.c.d, .int .i64 tt.c.u, .int .i64 tt.c.v] : Array Value).toList[e]? = some u → wr.cell? ⟨g, o + j * 15 + e, none⟩ = some u from fun e u hj => hcp j tt htt e u hj)
        have HPG := Lib.hid (show P.getD j T3.zero = tt by rw [List.getD_eq_getElem?_getD, htt]; rfl)
        clear hcp htt
        go_upto_region 11 with (first | (refine wpList_loadL rfl 87 _ rfl (g) (o + j * 15) rfl #[.int .i64 tt.a.x, .int .i64 tt.a.y, .int .i64 tt.a.d, .int .i64 tt.a.u, .int .i64 tt.a.v, .int .i64 tt.b.x, .int .i64 tt.b.y, .int .i64 tt.b.d, .int .i64 tt.b.u, .int .i64 tt.b.v, .int .i64 tt.c.x, .int .i64 tt.c.y, .int .i64 tt.c.d, .int .i64 tt.c.u, .int .i64 tt.c.v] agg87 HCP.out ?_) | (refine wpList_storeN rfl 87 _ _ rfl #[.int .i64 0, .int .i64 0, .int .i64 0, .int .i64 0, .int .i64 0, .int .i64 0, .int .i64 0, .int .i64 0, .int .i64 0, .int .i64 0, .int .i64 0, .int .i64 0, .int .i64 0, .int .i64 0, .int .i64 0] #[.int .i64 tt.a.x, .int .i64 tt.a.y, .int .i64 tt.a.d, .int .i64 tt.a.u, .int .i64 tt.a.v, .int .i64 tt.b.x, .int .i64 tt.b.y, .int .i64 tt.b.d, .int .i64 tt.b.u, .int .i64 tt.b.v, .int .i64 tt.c.x, .int .i64 tt.c.y, .int .i64 tt.c.d, .int .i64 tt.c.u, .int .i64 tt.c.v] rfl rfl (by kernel_rfl) rfl (by simp [Value.oneCell']) ?_))
        obtain ⟨u1, xt, hz, hx', BT_, bA⟩ := laidB wr 87 #[.int .i64 tt.a.x, .int .i64 tt.a.y, .int .i64 tt.a.d, .int .i64 tt.a.u, .int .i64 tt.a.v, .int .i64 tt.b.x, .int .i64 tt.b.y, .int .i64 tt.b.d, .int .i64 tt.b.u, .int .i64 tt.b.v, .int .i64 tt.c.x, .int .i64 tt.c.y, .int .i64 tt.c.d, .int .i64 tt.c.u, .int .i64 tt.c.v]
        rw [← hz.out, ← hx'.out]
        replace BS := mB BS bA
        replace BC := mB BC bA
        replace BR := mB BR bA
        replace BO := mB BO bA
        replace BI := mB BI bA
        replace OWN := Lib.hid (OWN.out.below bA)
        replace PO := Lib.hid (PO.out.below bA)
        replace HB := mT HB bA
        clear hz hx' bA
        clear HCP hg ij1 ij0
        have hb54 := bld_54 it.look.bias (i : Int) (k : Int) (j : Int)
        have hb89 := bld_89 (tt.a.x) (tt.a.y) (tt.a.d) (tt.a.u) (tt.a.v) (tt.b.x) (tt.b.y) (tt.b.d) (tt.b.u) (tt.b.v) (tt.c.x) (tt.c.y) (tt.c.d) (tt.c.u) (tt.c.v) it.look.bias (i : Int) (k : Int) (j : Int)
        have hlen : ((pts1 c I i ++ pts2 c it (i : Int) k) ++ pts3 it.look.bias (i : Int) (k : Int) P j).length ≤ 1000000 := by
          have h1 := pts1_len c I HTL.out i (by rw [← HNI.out]; omega)
          have h2 := pts2_len c it (i : Int) k
          have h3 := pts3_len it.look.bias (i : Int) (k : Int) P j
          have h4 := HI256.out
          have h5 := HT64.out
          have h6 := HPL.out
          rw [List.length_append, List.length_append]
          omega
        have NBS := Lib.hid (OWN.out.ne BS.out (by decide))
        have NBC := Lib.hid (OWN.out.ne BC.out (by decide))
        have NBR := Lib.hid (OWN.out.ne BR.out (by decide))
        have NBO := Lib.hid (OWN.out.ne BO.out (by decide))
        have NBI := Lib.hid (OWN.out.ne BI.out (by decide))
        have NPO := Lib.hid (PO.out.ne_own OWN.out (by decide))
        have bo_ := BO.out.c3
        have bi_ := BI.out.c18
        go_upto_region 12 with (first | (refine wpList_loadB rfl 87 _ rfl (xt) rfl #[.int .i64 tt.a.x, .int .i64 tt.a.y, .int .i64 tt.a.d, .int .i64 tt.a.u, .int .i64 tt.a.v, .int .i64 tt.b.x, .int .i64 tt.b.y, .int .i64 tt.b.d, .int .i64 tt.b.u, .int .i64 tt.b.v, .int .i64 tt.c.x, .int .i64 tt.c.y, .int .i64 tt.c.d, .int .i64 tt.c.u, .int .i64 tt.c.v] agg87 BT_.out ?_) | (at_builtin; refine wpList_appL rfl (.tmp 39) (.tmp 49) 65 rfl (w.heap.size) inf65 (by decide) (by decide) Pt.cells Pt.len Pt.one ((pts1 c I i ++ pts2 c it (i : Int) k) ++ pts3 it.look.bias (i : Int) (k : Int) P j) _ rfl (OWN.out.alloc _) (⟨tt, it.look.bias, (i : Int), (k : Int), (j : Int)⟩ : Pt) _ 1 rfl _ (hasBlk_new _ _ _) rfl hlen (by have := HB.out.size; simp; omega) ?_; intro v9 r4 ho hgr hnb; obtain ⟨A9, n9, c9, hv9⟩ := ho.shape; subst hv9; have qBO := (BO.out.alloc (.cells #[.int .i64 tt.a.x, .int .i64 tt.a.y, .int .i64 tt.a.d, .int .i64 tt.a.u, .int .i64 tt.a.v, .int .i64 tt.b.x, .int .i64 tt.b.y, .int .i64 tt.b.d, .int .i64 tt.b.u, .int .i64 tt.b.v, .int .i64 tt.c.x, .int .i64 tt.c.y, .int .i64 tt.c.d, .int .i64 tt.c.u, .int .i64 tt.c.v, .int .i64 it.look.bias, .int .i64 ((i : Int)), .int .i64 ((k : Int)), .int .i64 ((j : Int)), .int .i64 0, .int .i64 0] 89)).grown hgr NBO.out; have gf := qBO.frozen 2; have gz := qBO.lt; have gc := qBO.cell 2; simp at gc))
        clear gf gz gc hb54 hb89
        clear bo_
        clear bi_
        have qHB := (OWN.out.alloc (.cells #[.int .i64 tt.a.x, .int .i64 tt.a.y, .int .i64 tt.a.d, .int .i64 tt.a.u, .int .i64 tt.a.v, .int .i64 tt.b.x, .int .i64 tt.b.y, .int .i64 tt.b.d, .int .i64 tt.b.u, .int .i64 tt.b.v, .int .i64 tt.c.x, .int .i64 tt.c.y, .int .i64 tt.c.d, .int .i64 tt.c.u, .int .i64 tt.c.v, .int .i64 it.look.bias, .int .i64 ((i : Int)), .int .i64 ((k : Int)), .int .i64 ((j : Int)), .int .i64 0, .int .i64 0] 89)).bel (HB.out.alloc HB.out.size (.cells #[.int .i64 tt.a.x, .int .i64 tt.a.y, .int .i64 tt.a.d, .int .i64 tt.a.u, .int .i64 tt.a.v, .int .i64 tt.b.x, .int .i64 tt.b.y, .int .i64 tt.b.d, .int .i64 tt.b.u, .int .i64 tt.b.v, .int .i64 tt.c.x, .int .i64 tt.c.y, .int .i64 tt.c.d, .int .i64 tt.c.u, .int .i64 tt.c.v, .int .i64 it.look.bias, .int .i64 ((i : Int)), .int .i64 ((k : Int)), .int .i64 ((j : Int)), .int .i64 0, .int .i64 0] 89)) hgr (Nat.le_refl _) (by have := HB.out.size; simp; omega)
        have qPO := (PO.out.alloc (.cells #[.int .i64 tt.a.x, .int .i64 tt.a.y, .int .i64 tt.a.d, .int .i64 tt.a.u, .int .i64 tt.a.v, .int .i64 tt.b.x, .int .i64 tt.b.y, .int .i64 tt.b.d, .int .i64 tt.b.u, .int .i64 tt.b.v, .int .i64 tt.c.x, .int .i64 tt.c.y, .int .i64 tt.c.d, .int .i64 tt.c.u, .int .i64 tt.c.v, .int .i64 it.look.bias, .int .i64 ((i : Int)), .int .i64 ((k : Int)), .int .i64 ((j : Int)), .int .i64 0, .int .i64 0] 89)).grown hgr NPO.out
        have qBS := (BS.out.alloc (.cells #[.int .i64 tt.a.x, .int .i64 tt.a.y, .int .i64 tt.a.d, .int .i64 tt.a.u, .int .i64 tt.a.v, .int .i64 tt.b.x, .int .i64 tt.b.y, .int .i64 tt.b.d, .int .i64 tt.b.u, .int .i64 tt.b.v, .int .i64 tt.c.x, .int .i64 tt.c.y, .int .i64 tt.c.d, .int .i64 tt.c.u, .int .i64 tt.c.v, .int .i64 it.look.bias, .int .i64 ((i : Int)), .int .i64 ((k : Int)), .int .i64 ((j : Int)), .int .i64 0, .int .i64 0] 89)).grown hgr NBS.out
        have qBC := (BC.out.alloc (.cells #[.int .i64 tt.a.x, .int .i64 tt.a.y, .int .i64 tt.a.d, .int .i64 tt.a.u, .int .i64 tt.a.v, .int .i64 tt.b.x, .int .i64 tt.b.y, .int .i64 tt.b.d, .int .i64 tt.b.u, .int .i64 tt.b.v, .int .i64 tt.c.x, .int .i64 tt.c.y, .int .i64 tt.c.d, .int .i64 tt.c.u, .int .i64 tt.c.v, .int .i64 it.look.bias, .int .i64 ((i : Int)), .int .i64 ((k : Int)), .int .i64 ((j : Int)), .int .i64 0, .int .i64 0] 89)).grown hgr NBC.out
        have qBR := (BR.out.alloc (.cells #[.int .i64 tt.a.x, .int .i64 tt.a.y, .int .i64 tt.a.d, .int .i64 tt.a.u, .int .i64 tt.a.v, .int .i64 tt.b.x, .int .i64 tt.b.y, .int .i64 tt.b.d, .int .i64 tt.b.u, .int .i64 tt.b.v, .int .i64 tt.c.x, .int .i64 tt.c.y, .int .i64 tt.c.d, .int .i64 tt.c.u, .int .i64 tt.c.v, .int .i64 it.look.bias, .int .i64 ((i : Int)), .int .i64 ((k : Int)), .int .i64 ((j : Int)), .int .i64 0, .int .i64 0] 89)).grown hgr NBR.out
        have qBI := (BI.out.alloc (.cells #[.int .i64 tt.a.x, .int .i64 tt.a.y, .int .i64 tt.a.d, .int .i64 tt.a.u, .int .i64 tt.a.v, .int .i64 tt.b.x, .int .i64 tt.b.y, .int .i64 tt.b.d, .int .i64 tt.b.u, .int .i64 tt.b.v, .int .i64 tt.c.x, .int .i64 tt.c.y, .int .i64 tt.c.d, .int .i64 tt.c.u, .int .i64 tt.c.v, .int .i64 it.look.bias, .int .i64 ((i : Int)), .int .i64 ((k : Int)), .int .i64 ((j : Int)), .int .i64 0, .int .i64 0] 89)).grown hgr NBI.out
        have nOW := ho.ne qBO (by decide)
        have nPO := qPO.ne qBO (by decide)
        have sBO : HasBlk (r4.setCell ⟨xo, 2, none⟩ (.slice A9 n9 c9)) xo 67 #[.slice (some ⟨gi, oi, none⟩) nI ci, .slice Ax nX cx, .slice A9 n9 c9] := by simpa using qBO.set 2 (.slice A9 n9 c9)
        have sBS := qBS.far (p := ⟨xo, 2, none⟩) (by have := LO.out; have := LI.out; first | omega | (simp; done) | (simp; omega)) (.slice A9 n9 c9)
        have sBC := qBC.far (p := ⟨xo, 2, none⟩) (by have := LO.out; have := LI.out; first | omega | (simp; done) | (simp; omega)) (.slice A9 n9 c9)
        have sBR := qBR.far (p := ⟨xo, 2, none⟩) (by have := LO.out; have := LI.out; first | omega | (simp; done) | (simp; omega)) (.slice A9 n9 c9)
        have sBI := qBI.far (p := ⟨xo, 2, none⟩) (by have := LO.out; have := LI.out; first | omega | (simp; done) | (simp; omega)) (.slice A9 n9 c9)
        have sHB := Below.setCell (p := ⟨xo, 2, none⟩) qHB (by show w.heap.size ≤ xo; have := LO.out; omega) (.slice A9 n9 c9)
        have sOW := ho.far (p := ⟨xo, 2, none⟩) nOW (.slice A9 n9 c9)
        have sPO := qPO.far (p := ⟨xo, 2, none⟩) nPO (.slice A9 n9 c9)
        generalize (r4.setCell ⟨xo, 2, none⟩ (.slice A9 n9 c9)) = r5 at *
        rw [List.append_assoc, ← HPG.out, ← pts3_succ] at sOW
        have hbb := HPL.out
        clear hgr hnb hlen
        go_wp2
        go_roundw
        case rel => exact ⟨j + 1, (.slice A9 n9 c9), by omega, by go_num, sOW, sPO, sBS, sBC, sBR, sBO, sBI, sHB⟩
        case measure => simp [intOf]; omega
end Go.Proofs.YtemopgpcpjnmkaaDoor
