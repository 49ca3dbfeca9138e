/- top: whether a show may be. -/
import Derived.Test.YtemopgpcpjnmkaaDoorT20
import Derived.Test.YtemopgpcpjnmkaaDoorLoad
namespace Go.Proofs.YtemopgpcpjnmkaaDoor
open Go.RowKit
set_option linter.unusedVariables false
theorem agg52 : Agg Tryd.prog 52 18 := ⟨_, Tryd.underlying52, rfl, by kernel_rfl⟩

set_option maxRecDepth 100000 in
set_option maxHeartbeats 16000000 in
theorem chk1_any (i : It) (s : Sh) (g : Nat) (w : World) (hS : HasBlk w g 25 #[.slice s.Ai s.I.length s.ci, .slice s.Ax s.X.length s.cx]) (hR : i.Rd w) : Calls Tryd.prog 47 #[.agg #[.slice i.Av i.V.length i.cv, .slice i.Au i.U.length i.cu, .slice i.At i.T.length i.ct, .int .u8 i.look.c0, .int .u8 i.look.c1, .int .u8 i.look.c2, .int .u8 i.look.c3, .int .i64 i.look.tex, .int .u8 i.look.cull, .int .i64 i.look.bias, .bool i.look.blend, .int .i64 i.look.bin, .int .i64 i.box.lo.x, .int .i64 i.box.lo.y, .int .i64 i.box.lo.z, .int .i64 i.box.hi.x, .int .i64 i.box.hi.y, .int .i64 i.box.hi.z], .pointer (some ⟨g, 0, none⟩)] w fun e w' => EqR (¬ i.Ok s.X.length) e ∧ Below w.heap.size w w' := by
  have HR := Lib.hid hR
  have BS := Lib.hid hS
  clear hR hS
  obtain ⟨v0, hv0, BI, HB⟩ := lay1 w 52 #[.slice i.Av i.V.length i.cv, .slice i.Au i.U.length i.cu, .slice i.At i.T.length i.ct, .int .u8 i.look.c0, .int .u8 i.look.c1, .int .u8 i.look.c2, .int .u8 i.look.c3, .int .i64 i.look.tex, .int .u8 i.look.cull, .int .i64 i.look.bias, .bool i.look.blend, .int .i64 i.look.bin, .int .i64 i.box.lo.x, .int .i64 i.box.lo.y, .int .i64 i.box.lo.z, .int .i64 i.box.hi.x, .int .i64 i.box.hi.y, .int .i64 i.box.hi.z]
  replace BS := Lib.hid (BS.out.below HB.out)
  replace HR := Lib.hid (HR.out.below HB.out)
  go_enter Tryd.func47, Tryd.ntmps47
  go_upto_region 1 with fail
  rw [← hv0.out]
  clear hv0
  have s0 := BS.out.cell 1
  have sz := BS.out.lt
  simp at s0
  have bi_ := BI.out.c18
  have KX := Lib.hid (may_any i s.X.length v0 HR.out)
  go_wp2_with fail
  refine KX.out.mono ?_
  rintro e v1 ⟨⟨b, rfl, hb⟩, bel⟩
  clear KX s0 sz
  clear bi_
  have HX := Lib.hid hb
  clear hb
  replace BI := mB BI bel
  replace BS := Lib.hid (BS.out.below bel)
  replace HR := Lib.hid (HR.out.below bel)
  replace HB := mT HB bel
  clear bel
  go_wp2
  go_ret
  exact ⟨⟨!b, rfl, by rw [← HX.out]; cases b <;> simp⟩, HB.out⟩

set_option maxRecDepth 100000 in
set_option maxHeartbeats 16000000 in
theorem index_any (s : Sh) (g : Nat) (hm : s.I.length ≤ 256) (w : World) (hS : HasBlk w g 25 #[.slice s.Ai s.I.length s.ci, .slice s.Ax s.X.length s.cx]) (hR : RowL w s.Ai 18 It.cells s.I ∧ ∀ i ∈ s.I, i.Rd w) : Calls Tryd.prog 66 #[.slice s.Ai s.I.length s.ci, .func (.func 47) #[] #[.pointer (some ⟨g, 0, none⟩)]] w fun e w' => ∃ q, e = .returned (.int .i64 q) ∧ (0 ≤ q ↔ ∃ i, i ∈ s.I ∧ ¬ i.Ok s.X.length) ∧ Below w.heap.size w w' := by
  obtain ⟨I, X, Ai, ci, Ax, cx⟩ := s
  dsimp only at hm hS hR ⊢
  have HR := Lib.hid hR
  have BS := Lib.hid hS
  clear hR hS
  obtain ⟨n, hn⟩ : ∃ n, n = I.length := ⟨_, rfl⟩
  rw [← hn]
  have HN := Lib.hid hn
  have hb0 : n ≤ 256 := by rw [hn]; exact hm
  have HM := Lib.hid hb0
  clear hn hm hb0
  go_enter Tryd.func66, Tryd.ntmps66
  go_wp2
  go_loopw [8] (fun q wr => ∃ k : Nat, k ≤ n ∧ q = .int .i64 k ∧ RowKit.Hid (∀ j, j < k → ∀ i, I[j]? = some i → i.Ok X.length) ∧ Below w.heap.size w wr) (fun q wr => n - (intOf q).toNat)
  case atStart => exact ⟨0, Nat.zero_le _, rfl, Lib.hid (fun j h => absurd h (by omega)), Below.refl _ _⟩
  case round =>
    obtain ⟨k, hk, rfl, HAll, qHB⟩ := hrel
    have HB := Lib.hid qHB
    clear qHB
    by_cases hkn : k < n
    rotate_left
    · obtain rfl : n = k := by omega
      have d0 : decide ((n : Int) < (n : Int)) = false := by simp
      have HY := Lib.hid (show ¬ ∃ i, i ∈ I ∧ ¬ i.Ok X.length from fun ⟨i, hi, h⟩ => by
        obtain ⟨j, hj⟩ := List.getElem?_of_mem hi
        exact h (HAll.out j (by have := (List.getElem?_eq_some_iff.1 hj).1; rw [HN.out]; exact this) i hj))
      clear HAll
      go_wp2
      go_ret
      exact ⟨-1, rfl, ⟨fun h => absurd h (by decide), fun h => absurd h HY.out⟩, HB.out⟩
    have d0 : decide ((k : Int) < (n : Int)) = true := decide_eq_true (by omega)
    obtain ⟨i, hi⟩ : ∃ i, I[k]? = some i := ⟨_, List.getElem?_eq_getElem (by rw [← HN.out]; exact hkn)⟩
    have HIR := Lib.hid ((HR.out.2 i (List.mem_of_getElem? hi)).below HB.out)
    have BS2 := Lib.hid (BS.out.below HB.out)
    obtain ⟨g', o, rfl, hg, hc⟩ := HR.out.1.below HB.out (by rw [← HN.out]; omega)
    have hcL : ∀ j u, (#[.slice i.Av i.V.length i.cv, .slice i.Au i.U.length i.cu, .slice i.At i.T.length i.ct, .int .u8 i.look.c0, .int .u8 i.look.c1, .int .u8 i.look.c2, .int .u8 i.look.c3, .int .i64 i.look.tex, .int .u8 i.look.cull, .int .i64 i.look.bias, .bool i.look.blend, .int .i64 i.look.bin, .int .i64 i.box.lo.x, .int .i64 i.box.lo.y, .int .i64 i.box.lo.z, .int .i64 i.box.hi.x, .int .i64 i.box.hi.y, .int .i64 i.box.hi.z] : Array Value).toList[j]? = some u → wr.cell? ⟨g', o + k * 18 + j, none⟩ = some u := fun j u hj => hc k i hi j u hj
    have HCL := Lib.hid hcL
    have HIK := Lib.hid hi
    clear hc hi hcL
    have i1 : (k : Int) < (n : Int) := by omega
    have i0 : (0 : Int) ≤ (k : Int) := by omega
    have KX := Lib.hid (chk1_any i ⟨I, X, some ⟨g', o, none⟩, ci, Ax, cx⟩ g wr BS2.out HIR.out)
    go_wp2_with (refine wpList_loadL rfl 52 _ rfl g' (o + k * 18) rfl (#[.slice i.Av i.V.length i.cv, .slice i.Au i.U.length i.cu, .slice i.At i.T.length i.ct, .int .u8 i.look.c0, .int .u8 i.look.c1, .int .u8 i.look.c2, .int .u8 i.look.c3, .int .i64 i.look.tex, .int .u8 i.look.cull, .int .i64 i.look.bias, .bool i.look.blend, .int .i64 i.look.bin, .int .i64 i.box.lo.x, .int .i64 i.box.lo.y, .int .i64 i.box.lo.z, .int .i64 i.box.hi.x, .int .i64 i.box.hi.y, .int .i64 i.box.hi.z]) agg52 HCL.out ?_)
    refine KX.out.mono ?_
    rintro e w1 ⟨⟨b, rfl, hb⟩, bel⟩
    clear KX HCL hg
    have HX := Lib.hid hb
    have HB2 := Lib.hid (HB.out.trans (bel.mono HB.out.size))
    clear hb bel HB BS2 HIR
    cases b
    · have hbb := HM.out
      go_wp2
      go_roundw
      case rel =>
        refine ⟨k + 1, by omega, by go_num, Lib.hid (fun j hj => ?_), HB2.out⟩
        rcases Nat.lt_or_ge j k with h | h
        · exact HAll.out j h
        · obtain rfl : j = k := by omega
          exact fun i' h => (by rw [HIK.out] at h; injection h with h; subst h; exact Classical.byContradiction fun hx => by have := HX.out.2 hx; cases this)
      case measure => simp [intOf]; omega
    · have HY := Lib.hid (show ∃ i, i ∈ I ∧ ¬ i.Ok X.length from ⟨i, List.mem_of_getElem? HIK.out, by have := HX.out; simpa using this⟩)
      go_wp2
      go_ret
      exact ⟨k, rfl, ⟨fun _ => HY.out, fun _ => by omega⟩, HB2.out⟩

set_option maxRecDepth 100000 in
set_option maxHeartbeats 16000000 in
theorem contains_any (s : Sh) (g : Nat) (hm : s.I.length ≤ 256) (w : World) (hS : HasBlk w g 25 #[.slice s.Ai s.I.length s.ci, .slice s.Ax s.X.length s.cx]) (hR : RowL w s.Ai 18 It.cells s.I ∧ ∀ i ∈ s.I, i.Rd w) : Calls Tryd.prog 46 #[.slice s.Ai s.I.length s.ci, .func (.func 47) #[] #[.pointer (some ⟨g, 0, none⟩)]] w fun e w' => EqR (∃ i, i ∈ s.I ∧ ¬ i.Ok s.X.length) e ∧ Below w.heap.size w w' := by
  have KX := Lib.hid (index_any s g hm w hS hR)
  clear hS hR hm
  go_enter Tryd.func46, Tryd.ntmps46
  go_wp2_with fail
  refine KX.out.mono ?_
  rintro e w1 ⟨q, rfl, hq, bel⟩
  have HB := Lib.hid bel
  have HQ := Lib.hid hq
  clear KX bel hq
  go_wp2
  go_ret
  exact ⟨⟨decide (0 ≤ q), rfl, by rw [← HQ.out]; simp⟩, HB.out⟩

set_option maxRecDepth 100000 in
set_option maxHeartbeats 16000000 in
theorem icheck_any (s : Sh) (w : World) (hR : s.Rd w) : Calls Tryd.prog 32 #[.agg #[.slice s.Ai s.I.length s.ci, .slice s.Ax s.X.length s.cx]] w fun e w' => ∃ q, e = .returned (.int .i64 q) ∧ (q = 0 ↔ s.Ok) ∧ Below w.heap.size w w' := by
  have HR := Lib.hid hR
  clear hR
  by_cases h1 : s.I.length ≤ 256
  rotate_left
  · have g1 : decide ((256 : Int) < (s.I.length : Int)) = true := decide_eq_true (by omega)
    have HX := Lib.hid h1
    clear h1
    obtain ⟨v0, hv0, BS, HB⟩ := lay1 w 25 #[.slice s.Ai s.I.length s.ci, .slice s.Ax s.X.length s.cx]
    go_enter Tryd.func32, Tryd.ntmps32
    go_upto_region 1 with fail
    rw [← hv0.out]
    clear hv0
    have bs_ := BS.out.c2
    go_wp2
    go_ret
    exact ⟨4, rfl, ⟨fun h => absurd h (by decide), fun h => absurd h.1.1 HX.out⟩, HB.out⟩
  have g1 : decide ((256 : Int) < (s.I.length : Int)) = false := decide_eq_false (by omega)
  by_cases h2 : s.X.length ≤ 16
  rotate_left
  · have g2 : decide ((16 : Int) < (s.X.length : Int)) = true := decide_eq_true (by omega)
    have HX := Lib.hid h2
    clear h1 h2
    obtain ⟨v0, hv0, BS, HB⟩ := lay1 w 25 #[.slice s.Ai s.I.length s.ci, .slice s.Ax s.X.length s.cx]
    go_enter Tryd.func32, Tryd.ntmps32
    go_upto_region 1 with fail
    rw [← hv0.out]
    clear hv0
    have bs_ := BS.out.c2
    go_wp2
    go_ret
    exact ⟨4, rfl, ⟨fun h => absurd h (by decide), fun h => absurd h.1.2 HX.out⟩, HB.out⟩
  have g2 : decide ((16 : Int) < (s.X.length : Int)) = false := decide_eq_false (by omega)
  have H1 := Lib.hid h1
  have H2 := Lib.hid h2
  clear h1 h2
  obtain ⟨v0, hv0, BS, HB⟩ := lay1 w 25 #[.slice s.Ai s.I.length s.ci, .slice s.Ax s.X.length s.cx]
  replace HR := Lib.hid (HR.out.below HB.out)
  go_enter Tryd.func32, Tryd.ntmps32
  go_upto_region 1 with fail
  rw [← hv0.out]
  clear hv0
  have bs_ := BS.out.c2
  have KX := Lib.hid (tchecks_any s.Ax s.cx s.X v0 HR.out.2.2)
  go_wp2_with fail
  refine KX.out.mono ?_
  rintro e v1 ⟨q, rfl, hq, bel⟩
  clear KX
  clear bs_
  have HQ := Lib.hid hq
  clear hq
  replace BS := mB BS bel
  replace HR := Lib.hid (HR.out.below bel)
  replace HB := mT HB bel
  clear bel
  by_cases hq0 : q = 0
  rotate_left
  · have g0 : (q != 0) = true := by simp [hq0]
    have HX := Lib.hid (show ¬ ∀ t ∈ s.X, t.Ok from fun h => hq0 (HQ.out.2 ⟨H2.out, h⟩))
    clear hq0
    have bs_ := BS.out.c2
    go_wp2
    go_ret
    exact ⟨8, rfl, ⟨fun h => absurd h (by decide), fun h => absurd h.2.1 HX.out⟩, HB.out⟩
  have HT := Lib.hid (HQ.out.1 hq0).2
  subst hq0
  clear HQ
  have bs_ := BS.out.c2
  have KX := Lib.hid (contains_any s w.heap.size H1.out v1 BS.out ⟨HR.out.1, HR.out.2.1⟩)
  go_wp2_with fail
  refine KX.out.mono ?_
  rintro e v2 ⟨⟨b, rfl, hb⟩, bel⟩
  clear KX
  clear bs_
  have HX := Lib.hid hb
  clear hb
  replace BS := mB BS bel
  replace HR := Lib.hid (HR.out.below bel)
  replace HB := mT HB bel
  clear bel
  cases b
  · have HY := Lib.hid (show s.Ok from ⟨⟨H1.out, H2.out⟩, HT.out, fun i hi => Classical.byContradiction fun h => by have := HX.out.2 ⟨i, hi, h⟩; cases this⟩)
    go_wp2
    go_ret
    exact ⟨0, rfl, ⟨fun _ => HY.out, fun _ => rfl⟩, HB.out⟩
  · have HY := Lib.hid (show ¬ s.Ok from fun h => by
      have hx : ∃ i, i ∈ s.I ∧ ¬ i.Ok s.X.length := by have := HX.out; simpa using this
      obtain ⟨i, hi, hn⟩ := hx
      exact hn (h.2.2 i hi))
    go_wp2
    go_ret
    exact ⟨8, rfl, ⟨fun h => absurd h (by decide), fun h => absurd h HY.out⟩, HB.out⟩
theorem ccheckv (c : CD) (q : Int) (hq : cod c.Ok 150 = q) (w : World) : Calls Tryd.prog 14 #[.agg #[.int .i64 c.p.x, .int .i64 c.p.y, .int .i64 c.p.z, .int .i64 (c.m 0), .int .i64 (c.m 1), .int .i64 (c.m 2), .int .i64 (c.m 3), .int .i64 (c.m 4), .int .i64 (c.m 5), .int .i64 (c.m 6), .int .i64 (c.m 7), .int .i64 (c.m 8), .int .i64 c.F, .int .i64 c.N, .int .i64 c.W, .int .i64 c.H]] w fun e w' => e = .returned (.int .i64 q) ∧ Below w.heap.size w w' := by
  have h := ccheck_any c w
  rw [hq] at h
  exact h

set_option maxRecDepth 100000 in
set_option maxHeartbeats 16000000 in
theorem iasked_any (s : Sh) (c : CD) (w : World) (hR : s.Rd w) : Calls Tryd.prog 20 #[.agg #[.slice s.Ai s.I.length s.ci, .slice s.Ax s.X.length s.cx], .agg #[.int .i64 c.p.x, .int .i64 c.p.y, .int .i64 c.p.z, .int .i64 (c.m 0), .int .i64 (c.m 1), .int .i64 (c.m 2), .int .i64 (c.m 3), .int .i64 (c.m 4), .int .i64 (c.m 5), .int .i64 (c.m 6), .int .i64 (c.m 7), .int .i64 (c.m 8), .int .i64 c.F, .int .i64 c.N, .int .i64 c.W, .int .i64 c.H]] w fun e w' => ∃ q, e = .returned (.int .i64 q) ∧ (q = 0 ↔ s.Ok ∧ c.Ok) ∧ Below w.heap.size w w' := by
  have HR := Lib.hid hR
  clear hR
  obtain ⟨v0, hv0, BS, BC, HB⟩ := lay2 w 25 #[.slice s.Ai s.I.length s.ci, .slice s.Ax s.X.length s.cx] 31 #[.int .i64 c.p.x, .int .i64 c.p.y, .int .i64 c.p.z, .int .i64 (c.m 0), .int .i64 (c.m 1), .int .i64 (c.m 2), .int .i64 (c.m 3), .int .i64 (c.m 4), .int .i64 (c.m 5), .int .i64 (c.m 6), .int .i64 (c.m 7), .int .i64 (c.m 8), .int .i64 c.F, .int .i64 c.N, .int .i64 c.W, .int .i64 c.H]
  replace HR := Lib.hid (HR.out.below HB.out)
  go_enter Tryd.func20, Tryd.ntmps20
  go_upto_region 1 with fail
  rw [← hv0.out]
  clear hv0
  have bs_ := BS.out.c2
  have KX := Lib.hid (icheck_any s v0 HR.out)
  go_wp2_with fail
  refine KX.out.mono ?_
  rintro e v1 ⟨q, rfl, hq, bel⟩
  clear KX
  clear bs_
  have HQ := Lib.hid hq
  clear hq
  replace BS := mB BS bel
  replace BC := mB BC bel
  replace HR := Lib.hid (HR.out.below bel)
  replace HB := mT HB bel
  clear bel
  by_cases hq0 : q = 0
  rotate_left
  · have g0 : (q != 0) = true := by simp [hq0]
    have HX := Lib.hid (show ¬ s.Ok from fun h => hq0 (HQ.out.2 h))
    have HQ0 := Lib.hid hq0
    clear hq0
    go_wp2
    go_ret
    exact ⟨q, rfl, ⟨fun h => absurd h HQ0.out, fun h => absurd h.1 HX.out⟩, HB.out⟩
  have HS := Lib.hid (HQ.out.1 hq0)
  subst hq0
  clear HQ
  by_cases hc : c.Ok
  · have KC := Lib.hid (fun W => ccheckv c 0 (cod_yes hc) W)
    have HC := Lib.hid hc
    clear hc
    have bc_ := BC.out.c16
    have KX := Lib.hid (KC.out v1)
    go_wp2_with fail
    refine KX.out.mono ?_
    rintro e v2 ⟨rfl, bel⟩
    clear KX
    clear bc_
    replace BS := mB BS bel
    replace BC := mB BC bel
    replace HR := Lib.hid (HR.out.below bel)
    replace HB := mT HB bel
    clear bel
    go_wp2
    go_ret
    exact ⟨0, rfl, ⟨fun _ => ⟨HS.out, HC.out⟩, fun _ => rfl⟩, HB.out⟩
  · have KC := Lib.hid (fun W => ccheckv c 150 (cod_no hc) W)
    have HC := Lib.hid hc
    clear hc
    have bc_ := BC.out.c16
    have KX := Lib.hid (KC.out v1)
    go_wp2_with fail
    refine KX.out.mono ?_
    rintro e v2 ⟨rfl, bel⟩
    clear KX
    clear bc_
    replace BS := mB BS bel
    replace BC := mB BC bel
    replace HR := Lib.hid (HR.out.below bel)
    replace HB := mT HB bel
    clear bel
    go_wp2
    go_ret
    exact ⟨150, rfl, ⟨fun h => absurd h (by decide), fun h => absurd h.2 HC.out⟩, HB.out⟩
end Go.Proofs.YtemopgpcpjnmkaaDoor
