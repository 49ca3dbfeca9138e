/- top: what a triangle has at a pixel. -/
import Derived.Test.YtemopgpcpjnmkaaDoorT16
import Derived.Test.YtemopgpcpjnmkaaDoorT14
namespace Go.Proofs.YtemopgpcpjnmkaaDoor
open Go.RowKit
set_option linter.unusedVariables false
theorem T3.area_w (t : T3) (x y : Int) : (S5.w t.b t.c x y) + (S5.w t.c t.a x y) + (S5.w t.a t.b x y) = t.area := by
  unfold S5.w T3.area
  generalize 8 * x + 4 = px
  generalize 8 * y + 4 = py
  simp only [Int.sub_mul, Int.mul_sub]
  simp only [Int.mul_comm]
  omega
theorem S5.cov_pos {a b : S5} {x y : Int} (h : S5.cov a b x y = true) : 0 ≤ S5.w a b x y := by
  unfold S5.cov at h
  by_cases hn : S5.w a b x y < 0
  · simp [hn] at h
  · omega
/-- The weights of a covered pixel. -/
theorem T3.wts {t : T3} {x y : Int} (ht : t.Ok) (ha : 0 < t.area) (hp : Pix x y) (hc : t.cov x y = true) : ((0 ≤ (S5.w t.b t.c x y) ∧ (S5.w t.b t.c x y) ≤ 34359738368) ∧ (0 ≤ (S5.w t.c t.a x y) ∧ (S5.w t.c t.a x y) ≤ 34359738368) ∧ (0 ≤ (S5.w t.a t.b x y) ∧ (S5.w t.a t.b x y) ≤ 34359738368)) ∧ 0 < (S5.w t.b t.c x y) + (S5.w t.c t.a x y) + (S5.w t.a t.b x y) := by
  unfold T3.cov at hc
  simp only [Bool.and_eq_true] at hc
  have b0 := S5.w_bd (x := x) (y := y) ht.2.1 ht.2.2 hp
  have b1 := S5.w_bd (x := x) (y := y) ht.2.2 ht.1 hp
  have b2 := S5.w_bd (x := x) (y := y) ht.1 ht.2.1 hp
  refine ⟨⟨⟨S5.cov_pos hc.1.1, ?_⟩, ⟨S5.cov_pos hc.1.2, ?_⟩, ⟨S5.cov_pos hc.2, ?_⟩⟩, by rw [T3.area_w]; exact ha⟩ <;> unfold S5.w <;> omega
/-- What a triangle has at a pixel. -/
def T3.at (t : T3) (x y : Int) : S5 := ⟨8 * x + 4, 8 * y + 4, ((S5.w t.b t.c x y) * t.a.d + (S5.w t.c t.a x y) * t.b.d + (S5.w t.a t.b x y) * t.c.d) / ((S5.w t.b t.c x y) + (S5.w t.c t.a x y) + (S5.w t.a t.b x y)), ((S5.w t.b t.c x y) * t.a.d * t.a.u + (S5.w t.c t.a x y) * t.b.d * t.b.u + (S5.w t.a t.b x y) * t.c.d * t.c.u) / ((S5.w t.b t.c x y) * t.a.d + (S5.w t.c t.a x y) * t.b.d + (S5.w t.a t.b x y) * t.c.d), ((S5.w t.b t.c x y) * t.a.d * t.a.v + (S5.w t.c t.a x y) * t.b.d * t.b.v + (S5.w t.a t.b x y) * t.c.d * t.c.v) / ((S5.w t.b t.c x y) * t.a.d + (S5.w t.c t.a x y) * t.b.d + (S5.w t.a t.b x y) * t.c.d)⟩
def T3.atv (t : T3) (x y : Int) : Value := if t.cov x y then .tuple #[.agg #[.int .i64 ((t.at x y).x), .int .i64 ((t.at x y).y), .int .i64 ((t.at x y).d), .int .i64 ((t.at x y).u), .int .i64 ((t.at x y).v)], .int .i64 0] else .tuple #[.agg #[.int .i64 0, .int .i64 0, .int .i64 0, .int .i64 0, .int .i64 0], .int .i64 6]
theorem prd_bd {w d n : Int} (hw : 0 ≤ w ∧ w ≤ 34359738368) (hd : Wi d 1 65536) (hn : Wi n 0 255) : (w ≤ w * d ∧ w * d ≤ 2251799813685248) ∧ (0 ≤ w * d * n ∧ w * d * n ≤ 574208952489738240) := by
  unfold Wi at hd hn
  have h1 := Int.mul_le_mul_of_nonneg_left hd.1 hw.1
  have h2 := mul_bd2 (A := 34359738368) (B := 65536) (a := w) (b := d) (by decide) (by omega) (by omega)
  have h3 : 0 ≤ w * d := by omega
  have h4 := Int.mul_nonneg h3 hn.1
  have h5 := mul_bd2 (A := 2251799813685248) (B := 255) (a := w * d) (b := n) (by decide) (by omega) (by omega)
  omega
theorem bld_86 (x y : Int) (w : World) : (Instr.build 86 #[(0, .int .i64 x), (1, .int .i64 y)]).run Tryd.prog w = .ok (.agg #[.int .i64 x, .int .i64 y, .int .i64 0, .int .i64 0, .int .i64 0]) w := by kernel_rfl
theorem bld_86z (w : World) : (Instr.build 86 #[]).run Tryd.prog w = .ok (.agg #[.int .i64 0, .int .i64 0, .int .i64 0, .int .i64 0, .int .i64 0]) w := by kernel_rfl
theorem bld_28z (w : World) : (Instr.build 28 #[]).run Tryd.prog w = .ok (.agg #[.int .i64 0, .int .i64 0, .int .i64 0]) w := by kernel_rfl

set_option maxRecDepth 100000 in
set_option maxHeartbeats 32000000 in
theorem at_ok (t : T3) (x y : Int) (ht : t.Ok) (ha : 0 < t.area) (hp : Pix x y) (w : World) : Calls Tryd.prog 22 #[.agg #[.int .i64 t.a.x, .int .i64 t.a.y, .int .i64 t.a.d, .int .i64 t.a.u, .int .i64 t.a.v, .int .i64 t.b.x, .int .i64 t.b.y, .int .i64 t.b.d, .int .i64 t.b.u, .int .i64 t.b.v, .int .i64 t.c.x, .int .i64 t.c.y, .int .i64 t.c.d, .int .i64 t.c.u, .int .i64 t.c.v], .int .i64 x, .int .i64 y] w fun e w' => e = .returned (t.atv x y) ∧ Below w.heap.size w w' := by
  have HT := Lib.hid ht
  have HA := Lib.hid ha
  have HP := Lib.hid hp
  clear ht ha hp
  obtain ⟨v0, hv0, BT, BR, HB⟩ := lay2 w 87 #[.int .i64 t.a.x, .int .i64 t.a.y, .int .i64 t.a.d, .int .i64 t.a.u, .int .i64 t.a.v, .int .i64 t.b.x, .int .i64 t.b.y, .int .i64 t.b.d, .int .i64 t.b.u, .int .i64 t.b.v, .int .i64 t.c.x, .int .i64 t.c.y, .int .i64 t.c.d, .int .i64 t.c.u, .int .i64 t.c.v] 86 #[.int .i64 0, .int .i64 0, .int .i64 0, .int .i64 0, .int .i64 0]
  go_enter Tryd.func22, Tryd.ntmps22
  go_upto_region 1 with fail
  rw [← hv0.out]
  clear hv0
  have bt_ := BT.out.c15
  have KX := Lib.hid (covers_ok t x y HT.out HA.out HP.out v0)
  go_wp2_with fail
  refine KX.out.mono ?_
  rintro e v1 ⟨rfl, bel⟩
  clear KX
  clear bt_
  replace BT := mB BT bel
  replace BR := mB BR bel
  replace HB := mT HB bel
  clear bel
  by_cases hcov : t.cov x y = true
  rotate_left
  · have hcf : t.cov x y = false := by simpa using hcov
    have HF := Lib.hid (show t.atv x y = .tuple #[.agg #[.int .i64 0, .int .i64 0, .int .i64 0, .int .i64 0, .int .i64 0], .int .i64 6] by unfold T3.atv; rw [hcf]; rfl)
    rw [hcf]
    clear hcf hcov
    have hb := bld_86z
    have br_ := BR.out.f5
    go_wp2
    refine bodyPost_ret (v := .tuple #[.agg #[.int .i64 0, .int .i64 0, .int .i64 0, .int .i64 0, .int .i64 0], .int .i64 6]) (by simp [results, Tryd.results22, go_sem, *]) rfl ⟨by first | (rw [HF.out]; done) | (rw [HF.out]; rfl), ?_⟩
    repeat (refine Below.setCell ?_ (by first | omega | (simp; done) | (simp; omega)) _)
    exact HB.out
  have HC := Lib.hid (show t.atv x y = .tuple #[.agg #[.int .i64 ((t.at x y).x), .int .i64 ((t.at x y).y), .int .i64 ((t.at x y).d), .int .i64 ((t.at x y).u), .int .i64 ((t.at x y).v)], .int .i64 0] by unfold T3.atv; rw [hcov]; rfl)
  rw [hcov]
  have WB := Lib.hid (T3.wts HT.out HA.out HP.out hcov)
  clear hcov
  have bt_ := BT.out.c15
  have KX := Lib.hid (edges_ok t x y HT.out HA.out HP.out v1)
  go_wp2_with fail
  refine KX.out.mono ?_
  rintro e v2 ⟨rfl, bel⟩
  clear KX
  clear bt_
  replace BT := mB BT bel
  replace BR := mB BR bel
  replace HB := mT HB bel
  clear bel
  have hb := bld_28z
  go_upto_region 7 with fail
  obtain ⟨v3, xw, hz, hx', BW_, bA⟩ := laidB v2 28 #[.int .i64 ((S5.w t.b t.c x y)), .int .i64 ((S5.w t.c t.a x y)), .int .i64 ((S5.w t.a t.b x y))]
  rw [← hz.out, ← hx'.out]
  replace BT := mB BT bA
  replace BR := mB BR bA
  replace HB := mT HB bA
  clear hz hx' bA
  go_upto_region 10 with fail
  have LS := Lib.hid (show (w.heap.size + 1 < v3.heap.size ∧ xw < v3.heap.size) from ⟨BR.out.lt, BW_.out.lt⟩)
  obtain ⟨v4, xs, hz, hx', BS, bA⟩ := laidB v3 28 #[.int .i64 0, .int .i64 0, .int .i64 0]
  rw [← hz.out, ← hx'.out]
  rw [← hx'.out] at LS
  replace BT := mB BT bA
  replace BR := mB BR bA
  replace BW_ := mB BW_ bA
  replace HB := mT HB bA
  clear hz hx' bA
  clear hb
  have bt_ := BT.out.c15
  go_wp2
  clear bt_
  go_loopw [11, 45] (fun s11 s45 wr => RowKit.Hid ((s45 = .int .i64 (0 : Nat) ∧ s11 = .int .i64 0 ∧ HasBlk wr w.heap.size 87 #[.int .i64 t.a.x, .int .i64 t.a.y, .int .i64 t.a.d, .int .i64 t.a.u, .int .i64 t.a.v, .int .i64 t.b.x, .int .i64 t.b.y, .int .i64 t.b.d, .int .i64 t.b.u, .int .i64 t.b.v, .int .i64 t.c.x, .int .i64 t.c.y, .int .i64 t.c.d, .int .i64 t.c.u, .int .i64 t.c.v] ∧ HasBlk wr (w.heap.size + 1) 86 #[.int .i64 0, .int .i64 0, .int .i64 0, .int .i64 0, .int .i64 0] ∧ HasBlk wr xw 28 #[.int .i64 ((S5.w t.b t.c x y)), .int .i64 ((S5.w t.c t.a x y)), .int .i64 ((S5.w t.a t.b x y))] ∧ HasBlk wr xs 28 #[.int .i64 0, .int .i64 0, .int .i64 0] ∧ Below w.heap.size w wr) ∨ ((s45 = .int .i64 (1 : Nat) ∧ s11 = .int .i64 ((S5.w t.b t.c x y)) ∧ HasBlk wr w.heap.size 87 #[.int .i64 t.a.x, .int .i64 t.a.y, .int .i64 t.a.d, .int .i64 t.a.u, .int .i64 t.a.v, .int .i64 t.b.x, .int .i64 t.b.y, .int .i64 t.b.d, .int .i64 t.b.u, .int .i64 t.b.v, .int .i64 t.c.x, .int .i64 t.c.y, .int .i64 t.c.d, .int .i64 t.c.u, .int .i64 t.c.v] ∧ HasBlk wr (w.heap.size + 1) 86 #[.int .i64 0, .int .i64 0, .int .i64 0, .int .i64 0, .int .i64 0] ∧ HasBlk wr xw 28 #[.int .i64 ((S5.w t.b t.c x y)), .int .i64 ((S5.w t.c t.a x y)), .int .i64 ((S5.w t.a t.b x y))] ∧ HasBlk wr xs 28 #[.int .i64 (((S5.w t.b t.c x y) * t.a.d)), .int .i64 (((S5.w t.b t.c x y) * t.a.d * t.a.u)), .int .i64 (((S5.w t.b t.c x y) * t.a.d * t.a.v))] ∧ Below w.heap.size w wr) ∨ ((s45 = .int .i64 (2 : Nat) ∧ s11 = .int .i64 ((S5.w t.b t.c x y) + (S5.w t.c t.a x y)) ∧ HasBlk wr w.heap.size 87 #[.int .i64 t.a.x, .int .i64 t.a.y, .int .i64 t.a.d, .int .i64 t.a.u, .int .i64 t.a.v, .int .i64 t.b.x, .int .i64 t.b.y, .int .i64 t.b.d, .int .i64 t.b.u, .int .i64 t.b.v, .int .i64 t.c.x, .int .i64 t.c.y, .int .i64 t.c.d, .int .i64 t.c.u, .int .i64 t.c.v] ∧ HasBlk wr (w.heap.size + 1) 86 #[.int .i64 0, .int .i64 0, .int .i64 0, .int .i64 0, .int .i64 0] ∧ HasBlk wr xw 28 #[.int .i64 ((S5.w t.b t.c x y)), .int .i64 ((S5.w t.c t.a x y)), .int .i64 ((S5.w t.a t.b x y))] ∧ HasBlk wr xs 28 #[.int .i64 (((S5.w t.b t.c x y) * t.a.d + (S5.w t.c t.a x y) * t.b.d)), .int .i64 (((S5.w t.b t.c x y) * t.a.d * t.a.u + (S5.w t.c t.a x y) * t.b.d * t.b.u)), .int .i64 (((S5.w t.b t.c x y) * t.a.d * t.a.v + (S5.w t.c t.a x y) * t.b.d * t.b.v))] ∧ Below w.heap.size w wr) ∨ ((s45 = .int .i64 (3 : Nat) ∧ s11 = .int .i64 ((S5.w t.b t.c x y) + (S5.w t.c t.a x y) + (S5.w t.a t.b x y)) ∧ HasBlk wr w.heap.size 87 #[.int .i64 t.a.x, .int .i64 t.a.y, .int .i64 t.a.d, .int .i64 t.a.u, .int .i64 t.a.v, .int .i64 t.b.x, .int .i64 t.b.y, .int .i64 t.b.d, .int .i64 t.b.u, .int .i64 t.b.v, .int .i64 t.c.x, .int .i64 t.c.y, .int .i64 t.c.d, .int .i64 t.c.u, .int .i64 t.c.v] ∧ HasBlk wr (w.heap.size + 1) 86 #[.int .i64 0, .int .i64 0, .int .i64 0, .int .i64 0, .int .i64 0] ∧ HasBlk wr xw 28 #[.int .i64 ((S5.w t.b t.c x y)), .int .i64 ((S5.w t.c t.a x y)), .int .i64 ((S5.w t.a t.b x y))] ∧ HasBlk wr xs 28 #[.int .i64 (((S5.w t.b t.c x y) * t.a.d + (S5.w t.c t.a x y) * t.b.d + (S5.w t.a t.b x y) * t.c.d)), .int .i64 (((S5.w t.b t.c x y) * t.a.d * t.a.u + (S5.w t.c t.a x y) * t.b.d * t.b.u + (S5.w t.a t.b x y) * t.c.d * t.c.u)), .int .i64 (((S5.w t.b t.c x y) * t.a.d * t.a.v + (S5.w t.c t.a x y) * t.b.d * t.b.v + (S5.w t.a t.b x y) * t.c.d * t.c.v))] ∧ Below w.heap.size w wr)))))) (fun s11 s45 wr => 3 - (intOf s45).toNat)
  case atStart => exact Lib.hid (.inl ⟨rfl, rfl, BT.out, BR.out, BW_.out, BS.out, HB.out⟩)
  case round =>
    clear BT BR BW_ BS HB
    rcases hrel.out with ⟨rfl, rfl, qBT, qBR, qBW_, qBS, qHB⟩ | ⟨rfl, rfl, qBT, qBR, qBW_, qBS, qHB⟩ | ⟨rfl, rfl, qBT, qBR, qBW_, qBS, qHB⟩ | ⟨rfl, rfl, qBT, qBR, qBW_, qBS, qHB⟩
    · have BT := Lib.hid qBT
      have BR := Lib.hid qBR
      have BW_ := Lib.hid qBW_
      have BS := Lib.hid qBS
      have HB := Lib.hid qHB
      clear qBT qBR qBW_ qBS qHB
      have hx := ix_spot0 t
      go_upto_region 13 with fail
      have LI := Lib.hid (show xs < wr.heap.size from BS.out.lt)
      obtain ⟨u0, xi, hz, hx', BI, bA⟩ := laidB wr 86 #[.int .i64 t.a.x, .int .i64 t.a.y, .int .i64 t.a.d, .int .i64 t.a.u, .int .i64 t.a.v]
      rw [← hz.out, ← hx'.out]
      rw [← hx'.out] at LI
      replace BT := mB BT bA
      replace BR := mB BR bA
      replace BW_ := mB BW_ bA
      replace BS := mB BS bA
      replace HB := mT HB bA
      clear hz hx' bA
      clear hx
      have wb := WB.out
      have bu0 := prd_bd (n := t.a.u) wb.1.1 HT.out.1.2.1 HT.out.1.2.2.1
      have bv0 := prd_bd (n := t.a.v) wb.1.1 HT.out.1.2.1 HT.out.1.2.2.2
      have wa : IntKind.i64.wrap ((S5.w t.b t.c x y)) = (S5.w t.b t.c x y) := IntWalk.i64_in _ (by omega)
      clear wb bu0 bv0
      have hb := bld_28 1 t.a.u t.a.v
      have bw__ := BW_.out.c3
      have bi_ := BI.out.c5
      go_wp2
      clear bw__
      clear bi_
      clear wa
      clear hb
      obtain ⟨wo, rfl⟩ : ∃ wo : World, wo = u0 := ⟨_, rfl⟩
      go_loopw [59] (fun s59 wr => RowKit.Hid ((s59 = .int .i64 (0 : Nat) ∧ HasBlk wr w.heap.size 87 #[.int .i64 t.a.x, .int .i64 t.a.y, .int .i64 t.a.d, .int .i64 t.a.u, .int .i64 t.a.v, .int .i64 t.b.x, .int .i64 t.b.y, .int .i64 t.b.d, .int .i64 t.b.u, .int .i64 t.b.v, .int .i64 t.c.x, .int .i64 t.c.y, .int .i64 t.c.d, .int .i64 t.c.u, .int .i64 t.c.v] ∧ HasBlk wr (w.heap.size + 1) 86 #[.int .i64 0, .int .i64 0, .int .i64 0, .int .i64 0, .int .i64 0] ∧ HasBlk wr xw 28 #[.int .i64 ((S5.w t.b t.c x y)), .int .i64 ((S5.w t.c t.a x y)), .int .i64 ((S5.w t.a t.b x y))] ∧ HasBlk wr xs 28 #[.int .i64 0, .int .i64 0, .int .i64 0] ∧ HasBlk wr xi 86 #[.int .i64 t.a.x, .int .i64 t.a.y, .int .i64 t.a.d, .int .i64 t.a.u, .int .i64 t.a.v] ∧ Below w.heap.size w wr) ∨ ((s59 = .int .i64 (1 : Nat) ∧ HasBlk wr w.heap.size 87 #[.int .i64 t.a.x, .int .i64 t.a.y, .int .i64 t.a.d, .int .i64 t.a.u, .int .i64 t.a.v, .int .i64 t.b.x, .int .i64 t.b.y, .int .i64 t.b.d, .int .i64 t.b.u, .int .i64 t.b.v, .int .i64 t.c.x, .int .i64 t.c.y, .int .i64 t.c.d, .int .i64 t.c.u, .int .i64 t.c.v] ∧ HasBlk wr (w.heap.size + 1) 86 #[.int .i64 0, .int .i64 0, .int .i64 0, .int .i64 0, .int .i64 0] ∧ HasBlk wr xw 28 #[.int .i64 ((S5.w t.b t.c x y)), .int .i64 ((S5.w t.c t.a x y)), .int .i64 ((S5.w t.a t.b x y))] ∧ HasBlk wr xs 28 #[.int .i64 (((S5.w t.b t.c x y) * t.a.d)), .int .i64 0, .int .i64 0] ∧ HasBlk wr xi 86 #[.int .i64 t.a.x, .int .i64 t.a.y, .int .i64 t.a.d, .int .i64 t.a.u, .int .i64 t.a.v] ∧ Below w.heap.size w wr) ∨ ((s59 = .int .i64 (2 : Nat) ∧ HasBlk wr w.heap.size 87 #[.int .i64 t.a.x, .int .i64 t.a.y, .int .i64 t.a.d, .int .i64 t.a.u, .int .i64 t.a.v, .int .i64 t.b.x, .int .i64 t.b.y, .int .i64 t.b.d, .int .i64 t.b.u, .int .i64 t.b.v, .int .i64 t.c.x, .int .i64 t.c.y, .int .i64 t.c.d, .int .i64 t.c.u, .int .i64 t.c.v] ∧ HasBlk wr (w.heap.size + 1) 86 #[.int .i64 0, .int .i64 0, .int .i64 0, .int .i64 0, .int .i64 0] ∧ HasBlk wr xw 28 #[.int .i64 ((S5.w t.b t.c x y)), .int .i64 ((S5.w t.c t.a x y)), .int .i64 ((S5.w t.a t.b x y))] ∧ HasBlk wr xs 28 #[.int .i64 (((S5.w t.b t.c x y) * t.a.d)), .int .i64 (((S5.w t.b t.c x y) * t.a.d * t.a.u)), .int .i64 0] ∧ HasBlk wr xi 86 #[.int .i64 t.a.x, .int .i64 t.a.y, .int .i64 t.a.d, .int .i64 t.a.u, .int .i64 t.a.v] ∧ Below w.heap.size w wr) ∨ ((s59 = .int .i64 (3 : Nat) ∧ HasBlk wr w.heap.size 87 #[.int .i64 t.a.x, .int .i64 t.a.y, .int .i64 t.a.d, .int .i64 t.a.u, .int .i64 t.a.v, .int .i64 t.b.x, .int .i64 t.b.y, .int .i64 t.b.d, .int .i64 t.b.u, .int .i64 t.b.v, .int .i64 t.c.x, .int .i64 t.c.y, .int .i64 t.c.d, .int .i64 t.c.u, .int .i64 t.c.v] ∧ HasBlk wr (w.heap.size + 1) 86 #[.int .i64 0, .int .i64 0, .int .i64 0, .int .i64 0, .int .i64 0] ∧ HasBlk wr xw 28 #[.int .i64 ((S5.w t.b t.c x y)), .int .i64 ((S5.w t.c t.a x y)), .int .i64 ((S5.w t.a t.b x y))] ∧ HasBlk wr xs 28 #[.int .i64 (((S5.w t.b t.c x y) * t.a.d)), .int .i64 (((S5.w t.b t.c x y) * t.a.d * t.a.u)), .int .i64 (((S5.w t.b t.c x y) * t.a.d * t.a.v))] ∧ HasBlk wr xi 86 #[.int .i64 t.a.x, .int .i64 t.a.y, .int .i64 t.a.d, .int .i64 t.a.u, .int .i64 t.a.v] ∧ Below w.heap.size w wr)))))) (fun s59 wr => 3 - (intOf s59).toNat)
      case atStart => exact Lib.hid (.inl ⟨rfl, BT.out, BR.out, BW_.out, BS.out, BI.out, HB.out⟩)
      case round =>
        clear BT BR BW_ BS BI HB
        rcases hrel.out with ⟨rfl, qBT, qBR, qBW_, qBS, qBI, qHB⟩ | ⟨rfl, qBT, qBR, qBW_, qBS, qBI, qHB⟩ | ⟨rfl, qBT, qBR, qBW_, qBS, qBI, qHB⟩ | ⟨rfl, qBT, qBR, qBW_, qBS, qBI, qHB⟩
        · have BT := Lib.hid qBT
          have BR := Lib.hid qBR
          have BW_ := Lib.hid qBW_
          have BS := Lib.hid qBS
          have BI := Lib.hid qBI
          have HB := Lib.hid qHB
          clear qBT qBR qBW_ qBS qBI qHB
          have hx := ix_num0 1 t.a.u t.a.v
          go_upto_region 17 with fail
          clear hx
          have wb := WB.out
          have bu0 := prd_bd (n := t.a.u) wb.1.1 HT.out.1.2.1 HT.out.1.2.2.1
          have bv0 := prd_bd (n := t.a.v) wb.1.1 HT.out.1.2.1 HT.out.1.2.2.2
          have w1 : IntKind.i64.wrap ((S5.w t.b t.c x y) * t.a.d) = (S5.w t.b t.c x y) * t.a.d := IntWalk.i64_in _ (by omega)
          clear wb bu0 bv0
          have e0 := fun pb : BW wr => BW.cell (BS.out.at 0 rfl) BS.out.lt pb
          have e1 := fun pb : BW wr => BW.cell (BW_.out.at 0 rfl) BW_.out.lt pb
          have e2 := fun pb : BW wr => BW.cell (BI.out.at 2 rfl) BI.out.lt pb
          refine wp_region_bw_tail 13 (by kernel_rfl) (by kernel_rfl) ?_
          simp only [List.take_succ_cons, List.take_zero, List.drop_succ_cons, List.drop_zero]
          repeat (go_big_quiet_step (fail))
          refine wpQuiet_nil ?_
          intro _ hw'
          obtain ⟨pq, hw''⟩ := hw'
          subst hw''
          clear e0 e1 e2
          replace BT := mB BT pq.h
          replace BR := mB BR pq.h
          replace BW_ := mB BW_ pq.h
          replace BS := mB BS pq.h
          replace BI := mB BI pq.h
          replace HB := mT HB pq.h
          generalize pq.W = u3 at *
          clear pq
          have bs_ := BS.out.f3
          go_wp2
          clear bs_
          have qBT := BT.out.far (p := ⟨xs, 0, none⟩) (by have := LS.out; have := LI.out; first | omega | (simp; done) | (simp; omega)) (.int .i64 (((S5.w t.b t.c x y) * t.a.d)))
          have qBR := BR.out.far (p := ⟨xs, 0, none⟩) (by have := LS.out; have := LI.out; first | omega | (simp; done) | (simp; omega)) (.int .i64 (((S5.w t.b t.c x y) * t.a.d)))
          have qBW_ := BW_.out.far (p := ⟨xs, 0, none⟩) (by have := LS.out; have := LI.out; first | omega | (simp; done) | (simp; omega)) (.int .i64 (((S5.w t.b t.c x y) * t.a.d)))
          have qBI := BI.out.far (p := ⟨xs, 0, none⟩) (by have := LS.out; have := LI.out; first | omega | (simp; done) | (simp; omega)) (.int .i64 (((S5.w t.b t.c x y) * t.a.d)))
          have qBS : HasBlk (u3.setCell ⟨xs, 0, none⟩ (.int .i64 (((S5.w t.b t.c x y) * t.a.d)))) xs 28 #[.int .i64 (((S5.w t.b t.c x y) * t.a.d)), .int .i64 0, .int .i64 0] := by simpa using BS.out.set 0 (.int .i64 (((S5.w t.b t.c x y) * t.a.d)))
          have qHB := Below.setCell (p := ⟨xs, 0, none⟩) HB.out (by show w.heap.size ≤ xs; have := LS.out; omega) (.int .i64 (((S5.w t.b t.c x y) * t.a.d)))
          generalize (u3.setCell ⟨xs, 0, none⟩ (.int .i64 (((S5.w t.b t.c x y) * t.a.d)))) = u4 at *
          go_roundw
          case rel => exact Lib.hid (.inr ((.inl ⟨by go_num, qBT, qBR, qBW_, qBS, qBI, qHB⟩)))
          case measure => simp [intOf]
        · have BT := Lib.hid qBT
          have BR := Lib.hid qBR
          have BW_ := Lib.hid qBW_
          have BS := Lib.hid qBS
          have BI := Lib.hid qBI
          have HB := Lib.hid qHB
          clear qBT qBR qBW_ qBS qBI qHB
          have hx := ix_num1 1 t.a.u t.a.v
          go_upto_region 17 with fail
          clear hx
          have wb := WB.out
          have bu0 := prd_bd (n := t.a.u) wb.1.1 HT.out.1.2.1 HT.out.1.2.2.1
          have bv0 := prd_bd (n := t.a.v) wb.1.1 HT.out.1.2.1 HT.out.1.2.2.2
          have w1 : IntKind.i64.wrap ((S5.w t.b t.c x y) * t.a.d) = (S5.w t.b t.c x y) * t.a.d := IntWalk.i64_in _ (by omega)
          have w2 : IntKind.i64.wrap ((S5.w t.b t.c x y) * t.a.d * t.a.u) = (S5.w t.b t.c x y) * t.a.d * t.a.u := IntWalk.i64_in _ (by omega)
          clear wb bu0 bv0
          have e0 := fun pb : BW wr => BW.cell (BS.out.at 1 rfl) BS.out.lt pb
          have e1 := fun pb : BW wr => BW.cell (BW_.out.at 0 rfl) BW_.out.lt pb
          have e2 := fun pb : BW wr => BW.cell (BI.out.at 2 rfl) BI.out.lt pb
          refine wp_region_bw_tail 13 (by kernel_rfl) (by kernel_rfl) ?_
          simp only [List.take_succ_cons, List.take_zero, List.drop_succ_cons, List.drop_zero]
          repeat (go_big_quiet_step (fail))
          refine wpQuiet_nil ?_
          intro _ hw'
          obtain ⟨pq, hw''⟩ := hw'
          subst hw''
          clear e0 e1 e2
          replace BT := mB BT pq.h
          replace BR := mB BR pq.h
          replace BW_ := mB BW_ pq.h
          replace BS := mB BS pq.h
          replace BI := mB BI pq.h
          replace HB := mT HB pq.h
          generalize pq.W = u3 at *
          clear pq
          have bs_ := BS.out.f3
          go_wp2
          clear bs_
          have qBT := BT.out.far (p := ⟨xs, 1, none⟩) (by have := LS.out; have := LI.out; first | omega | (simp; done) | (simp; omega)) (.int .i64 (((S5.w t.b t.c x y) * t.a.d * t.a.u)))
          have qBR := BR.out.far (p := ⟨xs, 1, none⟩) (by have := LS.out; have := LI.out; first | omega | (simp; done) | (simp; omega)) (.int .i64 (((S5.w t.b t.c x y) * t.a.d * t.a.u)))
          have qBW_ := BW_.out.far (p := ⟨xs, 1, none⟩) (by have := LS.out; have := LI.out; first | omega | (simp; done) | (simp; omega)) (.int .i64 (((S5.w t.b t.c x y) * t.a.d * t.a.u)))
          have qBI := BI.out.far (p := ⟨xs, 1, none⟩) (by have := LS.out; have := LI.out; first | omega | (simp; done) | (simp; omega)) (.int .i64 (((S5.w t.b t.c x y) * t.a.d * t.a.u)))
          have qBS : HasBlk (u3.setCell ⟨xs, 1, none⟩ (.int .i64 (((S5.w t.b t.c x y) * t.a.d * t.a.u)))) xs 28 #[.int .i64 (((S5.w t.b t.c x y) * t.a.d)), .int .i64 (((S5.w t.b t.c x y) * t.a.d * t.a.u)), .int .i64 0] := by simpa using BS.out.set 1 (.int .i64 (((S5.w t.b t.c x y) * t.a.d * t.a.u)))
          have qHB := Below.setCell (p := ⟨xs, 1, none⟩) HB.out (by show w.heap.size ≤ xs; have := LS.out; omega) (.int .i64 (((S5.w t.b t.c x y) * t.a.d * t.a.u)))
          generalize (u3.setCell ⟨xs, 1, none⟩ (.int .i64 (((S5.w t.b t.c x y) * t.a.d * t.a.u)))) = u4 at *
          go_roundw
          case rel => exact Lib.hid (.inr (.inr ((.inl ⟨by go_num, qBT, qBR, qBW_, qBS, qBI, qHB⟩))))
          case measure => simp [intOf]
        · have BT := Lib.hid qBT
          have BR := Lib.hid qBR
          have BW_ := Lib.hid qBW_
          have BS := Lib.hid qBS
          have BI := Lib.hid qBI
          have HB := Lib.hid qHB
          clear qBT qBR qBW_ qBS qBI qHB
          have hx := ix_num2 1 t.a.u t.a.v
          go_upto_region 17 with fail
          clear hx
          have wb := WB.out
          have bu0 := prd_bd (n := t.a.u) wb.1.1 HT.out.1.2.1 HT.out.1.2.2.1
          have bv0 := prd_bd (n := t.a.v) wb.1.1 HT.out.1.2.1 HT.out.1.2.2.2
          have w1 : IntKind.i64.wrap ((S5.w t.b t.c x y) * t.a.d) = (S5.w t.b t.c x y) * t.a.d := IntWalk.i64_in _ (by omega)
          have w2 : IntKind.i64.wrap ((S5.w t.b t.c x y) * t.a.d * t.a.v) = (S5.w t.b t.c x y) * t.a.d * t.a.v := IntWalk.i64_in _ (by omega)
          clear wb bu0 bv0
          have e0 := fun pb : BW wr => BW.cell (BS.out.at 2 rfl) BS.out.lt pb
          have e1 := fun pb : BW wr => BW.cell (BW_.out.at 0 rfl) BW_.out.lt pb
          have e2 := fun pb : BW wr => BW.cell (BI.out.at 2 rfl) BI.out.lt pb
          refine wp_region_bw_tail 13 (by kernel_rfl) (by kernel_rfl) ?_
          simp only [List.take_succ_cons, List.take_zero, List.drop_succ_cons, List.drop_zero]
          repeat (go_big_quiet_step (fail))
          refine wpQuiet_nil ?_
          intro _ hw'
          obtain ⟨pq, hw''⟩ := hw'
          subst hw''
          clear e0 e1 e2
          replace BT := mB BT pq.h
          replace BR := mB BR pq.h
          replace BW_ := mB BW_ pq.h
          replace BS := mB BS pq.h
          replace BI := mB BI pq.h
          replace HB := mT HB pq.h
          generalize pq.W = u3 at *
          clear pq
          have bs_ := BS.out.f3
          go_wp2
          clear bs_
          have qBT := BT.out.far (p := ⟨xs, 2, none⟩) (by have := LS.out; have := LI.out; first | omega | (simp; done) | (simp; omega)) (.int .i64 (((S5.w t.b t.c x y) * t.a.d * t.a.v)))
          have qBR := BR.out.far (p := ⟨xs, 2, none⟩) (by have := LS.out; have := LI.out; first | omega | (simp; done) | (simp; omega)) (.int .i64 (((S5.w t.b t.c x y) * t.a.d * t.a.v)))
          have qBW_ := BW_.out.far (p := ⟨xs, 2, none⟩) (by have := LS.out; have := LI.out; first | omega | (simp; done) | (simp; omega)) (.int .i64 (((S5.w t.b t.c x y) * t.a.d * t.a.v)))
          have qBI := BI.out.far (p := ⟨xs, 2, none⟩) (by have := LS.out; have := LI.out; first | omega | (simp; done) | (simp; omega)) (.int .i64 (((S5.w t.b t.c x y) * t.a.d * t.a.v)))
          have qBS : HasBlk (u3.setCell ⟨xs, 2, none⟩ (.int .i64 (((S5.w t.b t.c x y) * t.a.d * t.a.v)))) xs 28 #[.int .i64 (((S5.w t.b t.c x y) * t.a.d)), .int .i64 (((S5.w t.b t.c x y) * t.a.d * t.a.u)), .int .i64 (((S5.w t.b t.c x y) * t.a.d * t.a.v))] := by simpa using BS.out.set 2 (.int .i64 (((S5.w t.b t.c x y) * t.a.d * t.a.v)))
          have qHB := Below.setCell (p := ⟨xs, 2, none⟩) HB.out (by show w.heap.size ≤ xs; have := LS.out; omega) (.int .i64 (((S5.w t.b t.c x y) * t.a.d * t.a.v)))
          generalize (u3.setCell ⟨xs, 2, none⟩ (.int .i64 (((S5.w t.b t.c x y) * t.a.d * t.a.v)))) = u4 at *
          go_roundw
          case rel => exact Lib.hid (.inr (.inr (.inr (⟨by go_num, qBT, qBR, qBW_, qBS, qBI, qHB⟩))))
          case measure => simp [intOf]
        · have BT := Lib.hid qBT
          have BR := Lib.hid qBR
          have BW_ := Lib.hid qBW_
          have BS := Lib.hid qBS
          have BI := Lib.hid qBI
          have HB := Lib.hid qHB
          clear qBT qBR qBW_ qBS qBI qHB
          clear BI
          go_wp2
          go_roundw
          case rel => exact Lib.hid (.inr ((.inl ⟨by go_num, rfl, BT.out, BR.out, BW_.out, BS.out, HB.out⟩)))
          case measure => simp [intOf]
    · have BT := Lib.hid qBT
      have BR := Lib.hid qBR
      have BW_ := Lib.hid qBW_
      have BS := Lib.hid qBS
      have HB := Lib.hid qHB
      clear qBT qBR qBW_ qBS qHB
      have hx := ix_spot1 t
      go_upto_region 13 with fail
      have LI := Lib.hid (show xs < wr.heap.size from BS.out.lt)
      obtain ⟨u0, xi, hz, hx', BI, bA⟩ := laidB wr 86 #[.int .i64 t.b.x, .int .i64 t.b.y, .int .i64 t.b.d, .int .i64 t.b.u, .int .i64 t.b.v]
      rw [← hz.out, ← hx'.out]
      rw [← hx'.out] at LI
      replace BT := mB BT bA
      replace BR := mB BR bA
      replace BW_ := mB BW_ bA
      replace BS := mB BS bA
      replace HB := mT HB bA
      clear hz hx' bA
      clear hx
      have wb := WB.out
      have bu0 := prd_bd (n := t.a.u) wb.1.1 HT.out.1.2.1 HT.out.1.2.2.1
      have bv0 := prd_bd (n := t.a.v) wb.1.1 HT.out.1.2.1 HT.out.1.2.2.2
      have bu1 := prd_bd (n := t.b.u) wb.1.2.1 HT.out.2.1.2.1 HT.out.2.1.2.2.1
      have bv1 := prd_bd (n := t.b.v) wb.1.2.1 HT.out.2.1.2.1 HT.out.2.1.2.2.2
      have wa : IntKind.i64.wrap ((S5.w t.b t.c x y) + (S5.w t.c t.a x y)) = (S5.w t.b t.c x y) + (S5.w t.c t.a x y) := IntWalk.i64_in _ (by omega)
      clear wb bu0 bv0 bu1 bv1
      have hb := bld_28 1 t.b.u t.b.v
      have bw__ := BW_.out.c3
      have bi_ := BI.out.c5
      go_wp2
      clear bw__
      clear bi_
      clear wa
      clear hb
      obtain ⟨wo, rfl⟩ : ∃ wo : World, wo = u0 := ⟨_, rfl⟩
      go_loopw [59] (fun s59 wr => RowKit.Hid ((s59 = .int .i64 (0 : Nat) ∧ HasBlk wr w.heap.size 87 #[.int .i64 t.a.x, .int .i64 t.a.y, .int .i64 t.a.d, .int .i64 t.a.u, .int .i64 t.a.v, .int .i64 t.b.x, .int .i64 t.b.y, .int .i64 t.b.d, .int .i64 t.b.u, .int .i64 t.b.v, .int .i64 t.c.x, .int .i64 t.c.y, .int .i64 t.c.d, .int .i64 t.c.u, .int .i64 t.c.v] ∧ HasBlk wr (w.heap.size + 1) 86 #[.int .i64 0, .int .i64 0, .int .i64 0, .int .i64 0, .int .i64 0] ∧ HasBlk wr xw 28 #[.int .i64 ((S5.w t.b t.c x y)), .int .i64 ((S5.w t.c t.a x y)), .int .i64 ((S5.w t.a t.b x y))] ∧ HasBlk wr xs 28 #[.int .i64 (((S5.w t.b t.c x y) * t.a.d)), .int .i64 (((S5.w t.b t.c x y) * t.a.d * t.a.u)), .int .i64 (((S5.w t.b t.c x y) * t.a.d * t.a.v))] ∧ HasBlk wr xi 86 #[.int .i64 t.b.x, .int .i64 t.b.y, .int .i64 t.b.d, .int .i64 t.b.u, .int .i64 t.b.v] ∧ Below w.heap.size w wr) ∨ ((s59 = .int .i64 (1 : Nat) ∧ HasBlk wr w.heap.size 87 #[.int .i64 t.a.x, .int .i64 t.a.y, .int .i64 t.a.d, .int .i64 t.a.u, .int .i64 t.a.v, .int .i64 t.b.x, .int .i64 t.b.y, .int .i64 t.b.d, .int .i64 t.b.u, .int .i64 t.b.v, .int .i64 t.c.x, .int .i64 t.c.y, .int .i64 t.c.d, .int .i64 t.c.u, .int .i64 t.c.v] ∧ HasBlk wr (w.heap.size + 1) 86 #[.int .i64 0, .int .i64 0, .int .i64 0, .int .i64 0, .int .i64 0] ∧ HasBlk wr xw 28 #[.int .i64 ((S5.w t.b t.c x y)), .int .i64 ((S5.w t.c t.a x y)), .int .i64 ((S5.w t.a t.b x y))] ∧ HasBlk wr xs 28 #[.int .i64 (((S5.w t.b t.c x y) * t.a.d + (S5.w t.c t.a x y) * t.b.d)), .int .i64 (((S5.w t.b t.c x y) * t.a.d * t.a.u)), .int .i64 (((S5.w t.b t.c x y) * t.a.d * t.a.v))] ∧ HasBlk wr xi 86 #[.int .i64 t.b.x, .int .i64 t.b.y, .int .i64 t.b.d, .int .i64 t.b.u, .int .i64 t.b.v] ∧ Below w.heap.size w wr) ∨ ((s59 = .int .i64 (2 : Nat) ∧ HasBlk wr w.heap.size 87 #[.int .i64 t.a.x, .int .i64 t.a.y, .int .i64 t.a.d, .int .i64 t.a.u, .int .i64 t.a.v, .int .i64 t.b.x, .int .i64 t.b.y, .int .i64 t.b.d, .int .i64 t.b.u, .int .i64 t.b.v, .int .i64 t.c.x, .int .i64 t.c.y, .int .i64 t.c.d, .int .i64 t.c.u, .int .i64 t.c.v] ∧ HasBlk wr (w.heap.size + 1) 86 #[.int .i64 0, .int .i64 0, .int .i64 0, .int .i64 0, .int .i64 0] ∧ HasBlk wr xw 28 #[.int .i64 ((S5.w t.b t.c x y)), .int .i64 ((S5.w t.c t.a x y)), .int .i64 ((S5.w t.a t.b x y))] ∧ HasBlk wr xs 28 #[.int .i64 (((S5.w t.b t.c x y) * t.a.d + (S5.w t.c t.a x y) * t.b.d)), .int .i64 (((S5.w t.b t.c x y) * t.a.d * t.a.u + (S5.w t.c t.a x y) * t.b.d * t.b.u)), .int .i64 (((S5.w t.b t.c x y) * t.a.d * t.a.v))] ∧ HasBlk wr xi 86 #[.int .i64 t.b.x, .int .i64 t.b.y, .int .i64 t.b.d, .int .i64 t.b.u, .int .i64 t.b.v] ∧ Below w.heap.size w wr) ∨ ((s59 = .int .i64 (3 : Nat) ∧ HasBlk wr w.heap.size 87 #[.int .i64 t.a.x, .int .i64 t.a.y, .int .i64 t.a.d, .int .i64 t.a.u, .int .i64 t.a.v, .int .i64 t.b.x, .int .i64 t.b.y, .int .i64 t.b.d, .int .i64 t.b.u, .int .i64 t.b.v, .int .i64 t.c.x, .int .i64 t.c.y, .int .i64 t.c.d, .int .i64 t.c.u, .int .i64 t.c.v] ∧ HasBlk wr (w.heap.size + 1) 86 #[.int .i64 0, .int .i64 0, .int .i64 0, .int .i64 0, .int .i64 0] ∧ HasBlk wr xw 28 #[.int .i64 ((S5.w t.b t.c x y)), .int .i64 ((S5.w t.c t.a x y)), .int .i64 ((S5.w t.a t.b x y))] ∧ HasBlk wr xs 28 #[.int .i64 (((S5.w t.b t.c x y) * t.a.d + (S5.w t.c t.a x y) * t.b.d)), .int .i64 (((S5.w t.b t.c x y) * t.a.d * t.a.u + (S5.w t.c t.a x y) * t.b.d * t.b.u)), .int .i64 (((S5.w t.b t.c x y) * t.a.d * t.a.v + (S5.w t.c t.a x y) * t.b.d * t.b.v))] ∧ HasBlk wr xi 86 #[.int .i64 t.b.x, .int .i64 t.b.y, .int .i64 t.b.d, .int .i64 t.b.u, .int .i64 t.b.v] ∧ Below w.heap.size w wr)))))) (fun s59 wr => 3 - (intOf s59).toNat)
      case atStart => exact Lib.hid (.inl ⟨rfl, BT.out, BR.out, BW_.out, BS.out, BI.out, HB.out⟩)
      case round =>
        clear BT BR BW_ BS BI HB
        rcases hrel.out with ⟨rfl, qBT, qBR, qBW_, qBS, qBI, qHB⟩ | ⟨rfl, qBT, qBR, qBW_, qBS, qBI, qHB⟩ | ⟨rfl, qBT, qBR, qBW_, qBS, qBI, qHB⟩ | ⟨rfl, qBT, qBR, qBW_, qBS, qBI, qHB⟩
        · have BT := Lib.hid qBT
          have BR := Lib.hid qBR
          have BW_ := Lib.hid qBW_
          have BS := Lib.hid qBS
          have BI := Lib.hid qBI
          have HB := Lib.hid qHB
          clear qBT qBR qBW_ qBS qBI qHB
          have hx := ix_num0 1 t.b.u t.b.v
          go_upto_region 17 with fail
          clear hx
          have wb := WB.out
          have bu0 := prd_bd (n := t.a.u) wb.1.1 HT.out.1.2.1 HT.out.1.2.2.1
          have bv0 := prd_bd (n := t.a.v) wb.1.1 HT.out.1.2.1 HT.out.1.2.2.2
          have bu1 := prd_bd (n := t.b.u) wb.1.2.1 HT.out.2.1.2.1 HT.out.2.1.2.2.1
          have bv1 := prd_bd (n := t.b.v) wb.1.2.1 HT.out.2.1.2.1 HT.out.2.1.2.2.2
          have w1 : IntKind.i64.wrap ((S5.w t.c t.a x y) * t.b.d) = (S5.w t.c t.a x y) * t.b.d := IntWalk.i64_in _ (by omega)
          have w3 : IntKind.i64.wrap ((S5.w t.b t.c x y) * t.a.d + (S5.w t.c t.a x y) * t.b.d) = (S5.w t.b t.c x y) * t.a.d + (S5.w t.c t.a x y) * t.b.d := IntWalk.i64_in _ (by omega)
          clear wb bu0 bv0 bu1 bv1
          have e0 := fun pb : BW wr => BW.cell (BS.out.at 0 rfl) BS.out.lt pb
          have e1 := fun pb : BW wr => BW.cell (BW_.out.at 1 rfl) BW_.out.lt pb
          have e2 := fun pb : BW wr => BW.cell (BI.out.at 2 rfl) BI.out.lt pb
          refine wp_region_bw_tail 13 (by kernel_rfl) (by kernel_rfl) ?_
          simp only [List.take_succ_cons, List.take_zero, List.drop_succ_cons, List.drop_zero]
          repeat (go_big_quiet_step (fail))
          refine wpQuiet_nil ?_
          intro _ hw'
          obtain ⟨pq, hw''⟩ := hw'
          subst hw''
          clear e0 e1 e2
          replace BT := mB BT pq.h
          replace BR := mB BR pq.h
          replace BW_ := mB BW_ pq.h
          replace BS := mB BS pq.h
          replace BI := mB BI pq.h
          replace HB := mT HB pq.h
          generalize pq.W = u3 at *
          clear pq
          have bs_ := BS.out.f3
          go_wp2
          clear bs_
          have qBT := BT.out.far (p := ⟨xs, 0, none⟩) (by have := LS.out; have := LI.out; first | omega | (simp; done) | (simp; omega)) (.int .i64 (((S5.w t.b t.c x y) * t.a.d + (S5.w t.c t.a x y) * t.b.d)))
          have qBR := BR.out.far (p := ⟨xs, 0, none⟩) (by have := LS.out; have := LI.out; first | omega | (simp; done) | (simp; omega)) (.int .i64 (((S5.w t.b t.c x y) * t.a.d + (S5.w t.c t.a x y) * t.b.d)))
          have qBW_ := BW_.out.far (p := ⟨xs, 0, none⟩) (by have := LS.out; have := LI.out; first | omega | (simp; done) | (simp; omega)) (.int .i64 (((S5.w t.b t.c x y) * t.a.d + (S5.w t.c t.a x y) * t.b.d)))
          have qBI := BI.out.far (p := ⟨xs, 0, none⟩) (by have := LS.out; have := LI.out; first | omega | (simp; done) | (simp; omega)) (.int .i64 (((S5.w t.b t.c x y) * t.a.d + (S5.w t.c t.a x y) * t.b.d)))
          have qBS : HasBlk (u3.setCell ⟨xs, 0, none⟩ (.int .i64 (((S5.w t.b t.c x y) * t.a.d + (S5.w t.c t.a x y) * t.b.d)))) xs 28 #[.int .i64 (((S5.w t.b t.c x y) * t.a.d + (S5.w t.c t.a x y) * t.b.d)), .int .i64 (((S5.w t.b t.c x y) * t.a.d * t.a.u)), .int .i64 (((S5.w t.b t.c x y) * t.a.d * t.a.v))] := by simpa using BS.out.set 0 (.int .i64 (((S5.w t.b t.c x y) * t.a.d + (S5.w t.c t.a x y) * t.b.d)))
          have qHB := Below.setCell (p := ⟨xs, 0, none⟩) HB.out (by show w.heap.size ≤ xs; have := LS.out; omega) (.int .i64 (((S5.w t.b t.c x y) * t.a.d + (S5.w t.c t.a x y) * t.b.d)))
          generalize (u3.setCell ⟨xs, 0, none⟩ (.int .i64 (((S5.w t.b t.c x y) * t.a.d + (S5.w t.c t.a x y) * t.b.d)))) = u4 at *
          go_roundw
          case rel => exact Lib.hid (.inr ((.inl ⟨by go_num, qBT, qBR, qBW_, qBS, qBI, qHB⟩)))
          case measure => simp [intOf]
        · have BT := Lib.hid qBT
          have BR := Lib.hid qBR
          have BW_ := Lib.hid qBW_
          have BS := Lib.hid qBS
          have BI := Lib.hid qBI
          have HB := Lib.hid qHB
          clear qBT qBR qBW_ qBS qBI qHB
          have hx := ix_num1 1 t.b.u t.b.v
          go_upto_region 17 with fail
          clear hx
          have wb := WB.out
          have bu0 := prd_bd (n := t.a.u) wb.1.1 HT.out.1.2.1 HT.out.1.2.2.1
          have bv0 := prd_bd (n := t.a.v) wb.1.1 HT.out.1.2.1 HT.out.1.2.2.2
          have bu1 := prd_bd (n := t.b.u) wb.1.2.1 HT.out.2.1.2.1 HT.out.2.1.2.2.1
          have bv1 := prd_bd (n := t.b.v) wb.1.2.1 HT.out.2.1.2.1 HT.out.2.1.2.2.2
          have w1 : IntKind.i64.wrap ((S5.w t.c t.a x y) * t.b.d) = (S5.w t.c t.a x y) * t.b.d := IntWalk.i64_in _ (by omega)
          have w2 : IntKind.i64.wrap ((S5.w t.c t.a x y) * t.b.d * t.b.u) = (S5.w t.c t.a x y) * t.b.d * t.b.u := IntWalk.i64_in _ (by omega)
          have w3 : IntKind.i64.wrap ((S5.w t.b t.c x y) * t.a.d * t.a.u + (S5.w t.c t.a x y) * t.b.d * t.b.u) = (S5.w t.b t.c x y) * t.a.d * t.a.u + (S5.w t.c t.a x y) * t.b.d * t.b.u := IntWalk.i64_in _ (by omega)
          clear wb bu0 bv0 bu1 bv1
          have e0 := fun pb : BW wr => BW.cell (BS.out.at 1 rfl) BS.out.lt pb
          have e1 := fun pb : BW wr => BW.cell (BW_.out.at 1 rfl) BW_.out.lt pb
          have e2 := fun pb : BW wr => BW.cell (BI.out.at 2 rfl) BI.out.lt pb
          refine wp_region_bw_tail 13 (by kernel_rfl) (by kernel_rfl) ?_
          simp only [List.take_succ_cons, List.take_zero, List.drop_succ_cons, List.drop_zero]
          repeat (go_big_quiet_step (fail))
          refine wpQuiet_nil ?_
          intro _ hw'
          obtain ⟨pq, hw''⟩ := hw'
          subst hw''
          clear e0 e1 e2
          replace BT := mB BT pq.h
          replace BR := mB BR pq.h
          replace BW_ := mB BW_ pq.h
          replace BS := mB BS pq.h
          replace BI := mB BI pq.h
          replace HB := mT HB pq.h
          generalize pq.W = u3 at *
          clear pq
          have bs_ := BS.out.f3
          go_wp2
          clear bs_
          have qBT := BT.out.far (p := ⟨xs, 1, none⟩) (by have := LS.out; have := LI.out; first | omega | (simp; done) | (simp; omega)) (.int .i64 (((S5.w t.b t.c x y) * t.a.d * t.a.u + (S5.w t.c t.a x y) * t.b.d * t.b.u)))
          have qBR := BR.out.far (p := ⟨xs, 1, none⟩) (by have := LS.out; have := LI.out; first | omega | (simp; done) | (simp; omega)) (.int .i64 (((S5.w t.b t.c x y) * t.a.d * t.a.u + (S5.w t.c t.a x y) * t.b.d * t.b.u)))
          have qBW_ := BW_.out.far (p := ⟨xs, 1, none⟩) (by have := LS.out; have := LI.out; first | omega | (simp; done) | (simp; omega)) (.int .i64 (((S5.w t.b t.c x y) * t.a.d * t.a.u + (S5.w t.c t.a x y) * t.b.d * t.b.u)))
          have qBI := BI.out.far (p := ⟨xs, 1, none⟩) (by have := LS.out; have := LI.out; first | omega | (simp; done) | (simp; omega)) (.int .i64 (((S5.w t.b t.c x y) * t.a.d * t.a.u + (S5.w t.c t.a x y) * t.b.d * t.b.u)))
          have qBS : HasBlk (u3.setCell ⟨xs, 1, none⟩ (.int .i64 (((S5.w t.b t.c x y) * t.a.d * t.a.u + (S5.w t.c t.a x y) * t.b.d * t.b.u)))) xs 28 #[.int .i64 (((S5.w t.b t.c x y) * t.a.d + (S5.w t.c t.a x y) * t.b.d)), .int .i64 (((S5.w t.b t.c x y) * t.a.d * t.a.u + (S5.w t.c t.a x y) * t.b.d * t.b.u)), .int .i64 (((S5.w t.b t.c x y) * t.a.d * t.a.v))] := by simpa using BS.out.set 1 (.int .i64 (((S5.w t.b t.c x y) * t.a.d * t.a.u + (S5.w t.c t.a x y) * t.b.d * t.b.u)))
          have qHB := Below.setCell (p := ⟨xs, 1, none⟩) HB.out (by show w.heap.size ≤ xs; have := LS.out; omega) (.int .i64 (((S5.w t.b t.c x y) * t.a.d * t.a.u + (S5.w t.c t.a x y) * t.b.d * t.b.u)))
          generalize (u3.setCell ⟨xs, 1, none⟩ (.int .i64 (((S5.w t.b t.c x y) * t.a.d * t.a.u + (S5.w t.c t.a x y) * t.b.d * t.b.u)))) = u4 at *
          go_roundw
          case rel => exact Lib.hid (.inr (.inr ((.inl ⟨by go_num, qBT, qBR, qBW_, qBS, qBI, qHB⟩))))
          case measure => simp [intOf]
        · have BT := Lib.hid qBT
          have BR := Lib.hid qBR
          have BW_ := Lib.hid qBW_
          have BS := Lib.hid qBS
          have BI := Lib.hid qBI
          have HB := Lib.hid qHB
          clear qBT qBR qBW_ qBS qBI qHB
          have hx := ix_num2 1 t.b.u t.b.v
          go_upto_region 17 with fail
          clear hx
          have wb := WB.out
          have bu0 := prd_bd (n := t.a.u) wb.1.1 HT.out.1.2.1 HT.out.1.2.2.1
          have bv0 := prd_bd (n := t.a.v) wb.1.1 HT.out.1.2.1 HT.out.1.2.2.2
          have bu1 := prd_bd (n := t.b.u) wb.1.2.1 HT.out.2.1.2.1 HT.out.2.1.2.2.1
          have bv1 := prd_bd (n := t.b.v) wb.1.2.1 HT.out.2.1.2.1 HT.out.2.1.2.2.2
          have w1 : IntKind.i64.wrap ((S5.w t.c t.a x y) * t.b.d) = (S5.w t.c t.a x y) * t.b.d := IntWalk.i64_in _ (by omega)
          have w2 : IntKind.i64.wrap ((S5.w t.c t.a x y) * t.b.d * t.b.v) = (S5.w t.c t.a x y) * t.b.d * t.b.v := IntWalk.i64_in _ (by omega)
          have w3 : IntKind.i64.wrap ((S5.w t.b t.c x y) * t.a.d * t.a.v + (S5.w t.c t.a x y) * t.b.d * t.b.v) = (S5.w t.b t.c x y) * t.a.d * t.a.v + (S5.w t.c t.a x y) * t.b.d * t.b.v := IntWalk.i64_in _ (by omega)
          clear wb bu0 bv0 bu1 bv1
          have e0 := fun pb : BW wr => BW.cell (BS.out.at 2 rfl) BS.out.lt pb
          have e1 := fun pb : BW wr => BW.cell (BW_.out.at 1 rfl) BW_.out.lt pb
          have e2 := fun pb : BW wr => BW.cell (BI.out.at 2 rfl) BI.out.lt pb
          refine wp_region_bw_tail 13 (by kernel_rfl) (by kernel_rfl) ?_
          simp only [List.take_succ_cons, List.take_zero, List.drop_succ_cons, List.drop_zero]
          repeat (go_big_quiet_step (fail))
          refine wpQuiet_nil ?_
          intro _ hw'
          obtain ⟨pq, hw''⟩ := hw'
          subst hw''
          clear e0 e1 e2
          replace BT := mB BT pq.h
          replace BR := mB BR pq.h
          replace BW_ := mB BW_ pq.h
          replace BS := mB BS pq.h
          replace BI := mB BI pq.h
          replace HB := mT HB pq.h
          generalize pq.W = u3 at *
          clear pq
          have bs_ := BS.out.f3
          go_wp2
          clear bs_
          have qBT := BT.out.far (p := ⟨xs, 2, none⟩) (by have := LS.out; have := LI.out; first | omega | (simp; done) | (simp; omega)) (.int .i64 (((S5.w t.b t.c x y) * t.a.d * t.a.v + (S5.w t.c t.a x y) * t.b.d * t.b.v)))
          have qBR := BR.out.far (p := ⟨xs, 2, none⟩) (by have := LS.out; have := LI.out; first | omega | (simp; done) | (simp; omega)) (.int .i64 (((S5.w t.b t.c x y) * t.a.d * t.a.v + (S5.w t.c t.a x y) * t.b.d * t.b.v)))
          have qBW_ := BW_.out.far (p := ⟨xs, 2, none⟩) (by have := LS.out; have := LI.out; first | omega | (simp; done) | (simp; omega)) (.int .i64 (((S5.w t.b t.c x y) * t.a.d * t.a.v + (S5.w t.c t.a x y) * t.b.d * t.b.v)))
          have qBI := BI.out.far (p := ⟨xs, 2, none⟩) (by have := LS.out; have := LI.out; first | omega | (simp; done) | (simp; omega)) (.int .i64 (((S5.w t.b t.c x y) * t.a.d * t.a.v + (S5.w t.c t.a x y) * t.b.d * t.b.v)))
          have qBS : HasBlk (u3.setCell ⟨xs, 2, none⟩ (.int .i64 (((S5.w t.b t.c x y) * t.a.d * t.a.v + (S5.w t.c t.a x y) * t.b.d * t.b.v)))) xs 28 #[.int .i64 (((S5.w t.b t.c x y) * t.a.d + (S5.w t.c t.a x y) * t.b.d)), .int .i64 (((S5.w t.b t.c x y) * t.a.d * t.a.u + (S5.w t.c t.a x y) * t.b.d * t.b.u)), .int .i64 (((S5.w t.b t.c x y) * t.a.d * t.a.v + (S5.w t.c t.a x y) * t.b.d * t.b.v))] := by simpa using BS.out.set 2 (.int .i64 (((S5.w t.b t.c x y) * t.a.d * t.a.v + (S5.w t.c t.a x y) * t.b.d * t.b.v)))
          have qHB := Below.setCell (p := ⟨xs, 2, none⟩) HB.out (by show w.heap.size ≤ xs; have := LS.out; omega) (.int .i64 (((S5.w t.b t.c x y) * t.a.d * t.a.v + (S5.w t.c t.a x y) * t.b.d * t.b.v)))
          generalize (u3.setCell ⟨xs, 2, none⟩ (.int .i64 (((S5.w t.b t.c x y) * t.a.d * t.a.v + (S5.w t.c t.a x y) * t.b.d * t.b.v)))) = u4 at *
          go_roundw
          case rel => exact Lib.hid (.inr (.inr (.inr (⟨by go_num, qBT, qBR, qBW_, qBS, qBI, qHB⟩))))
          case measure => simp [intOf]
        · have BT := Lib.hid qBT
          have BR := Lib.hid qBR
          have BW_ := Lib.hid qBW_
          have BS := Lib.hid qBS
          have BI := Lib.hid qBI
          have HB := Lib.hid qHB
          clear qBT qBR qBW_ qBS qBI qHB
          clear BI
          go_wp2
          go_roundw
          case rel => exact Lib.hid (.inr (.inr ((.inl ⟨by go_num, rfl, BT.out, BR.out, BW_.out, BS.out, HB.out⟩))))
          case measure => simp [intOf]
    · have BT := Lib.hid qBT
      have BR := Lib.hid qBR
      have BW_ := Lib.hid qBW_
      have BS := Lib.hid qBS
      have HB := Lib.hid qHB
      clear qBT qBR qBW_ qBS qHB
      have hx := ix_spot2 t
      go_upto_region 13 with fail
      have LI := Lib.hid (show xs < wr.heap.size from BS.out.lt)
      obtain ⟨u0, xi, hz, hx', BI, bA⟩ := laidB wr 86 #[.int .i64 t.c.x, .int .i64 t.c.y, .int .i64 t.c.d, .int .i64 t.c.u, .int .i64 t.c.v]
      rw [← hz.out, ← hx'.out]
      rw [← hx'.out] at LI
      replace BT := mB BT bA
      replace BR := mB BR bA
      replace BW_ := mB BW_ bA
      replace BS := mB BS bA
      replace HB := mT HB bA
      clear hz hx' bA
      clear hx
      have wb := WB.out
      have bu0 := prd_bd (n := t.a.u) wb.1.1 HT.out.1.2.1 HT.out.1.2.2.1
      have bv0 := prd_bd (n := t.a.v) wb.1.1 HT.out.1.2.1 HT.out.1.2.2.2
      have bu1 := prd_bd (n := t.b.u) wb.1.2.1 HT.out.2.1.2.1 HT.out.2.1.2.2.1
      have bv1 := prd_bd (n := t.b.v) wb.1.2.1 HT.out.2.1.2.1 HT.out.2.1.2.2.2
      have bu2 := prd_bd (n := t.c.u) wb.1.2.2 HT.out.2.2.2.1 HT.out.2.2.2.2.1
      have bv2 := prd_bd (n := t.c.v) wb.1.2.2 HT.out.2.2.2.1 HT.out.2.2.2.2.2
      have wa : IntKind.i64.wrap ((S5.w t.b t.c x y) + (S5.w t.c t.a x y) + (S5.w t.a t.b x y)) = (S5.w t.b t.c x y) + (S5.w t.c t.a x y) + (S5.w t.a t.b x y) := IntWalk.i64_in _ (by omega)
      clear wb bu0 bv0 bu1 bv1 bu2 bv2
      have hb := bld_28 1 t.c.u t.c.v
      have bw__ := BW_.out.c3
      have bi_ := BI.out.c5
      go_wp2
      clear bw__
      clear bi_
      clear wa
      clear hb
      obtain ⟨wo, rfl⟩ : ∃ wo : World, wo = u0 := ⟨_, rfl⟩
      go_loopw [59] (fun s59 wr => RowKit.Hid ((s59 = .int .i64 (0 : Nat) ∧ HasBlk wr w.heap.size 87 #[.int .i64 t.a.x, .int .i64 t.a.y, .int .i64 t.a.d, .int .i64 t.a.u, .int .i64 t.a.v, .int .i64 t.b.x, .int .i64 t.b.y, .int .i64 t.b.d, .int .i64 t.b.u, .int .i64 t.b.v, .int .i64 t.c.x, .int .i64 t.c.y, .int .i64 t.c.d, .int .i64 t.c.u, .int .i64 t.c.v] ∧ HasBlk wr (w.heap.size + 1) 86 #[.int .i64 0, .int .i64 0, .int .i64 0, .int .i64 0, .int .i64 0] ∧ HasBlk wr xw 28 #[.int .i64 ((S5.w t.b t.c x y)), .int .i64 ((S5.w t.c t.a x y)), .int .i64 ((S5.w t.a t.b x y))] ∧ HasBlk wr xs 28 #[.int .i64 (((S5.w t.b t.c x y) * t.a.d + (S5.w t.c t.a x y) * t.b.d)), .int .i64 (((S5.w t.b t.c x y) * t.a.d * t.a.u + (S5.w t.c t.a x y) * t.b.d * t.b.u)), .int .i64 (((S5.w t.b t.c x y) * t.a.d * t.a.v + (S5.w t.c t.a x y) * t.b.d * t.b.v))] ∧ HasBlk wr xi 86 #[.int .i64 t.c.x, .int .i64 t.c.y, .int .i64 t.c.d, .int .i64 t.c.u, .int .i64 t.c.v] ∧ Below w.heap.size w wr) ∨ ((s59 = .int .i64 (1 : Nat) ∧ HasBlk wr w.heap.size 87 #[.int .i64 t.a.x, .int .i64 t.a.y, .int .i64 t.a.d, .int .i64 t.a.u, .int .i64 t.a.v, .int .i64 t.b.x, .int .i64 t.b.y, .int .i64 t.b.d, .int .i64 t.b.u, .int .i64 t.b.v, .int .i64 t.c.x, .int .i64 t.c.y, .int .i64 t.c.d, .int .i64 t.c.u, .int .i64 t.c.v] ∧ HasBlk wr (w.heap.size + 1) 86 #[.int .i64 0, .int .i64 0, .int .i64 0, .int .i64 0, .int .i64 0] ∧ HasBlk wr xw 28 #[.int .i64 ((S5.w t.b t.c x y)), .int .i64 ((S5.w t.c t.a x y)), .int .i64 ((S5.w t.a t.b x y))] ∧ HasBlk wr xs 28 #[.int .i64 (((S5.w t.b t.c x y) * t.a.d + (S5.w t.c t.a x y) * t.b.d + (S5.w t.a t.b x y) * t.c.d)), .int .i64 (((S5.w t.b t.c x y) * t.a.d * t.a.u + (S5.w t.c t.a x y) * t.b.d * t.b.u)), .int .i64 (((S5.w t.b t.c x y) * t.a.d * t.a.v + (S5.w t.c t.a x y) * t.b.d * t.b.v))] ∧ HasBlk wr xi 86 #[.int .i64 t.c.x, .int .i64 t.c.y, .int .i64 t.c.d, .int .i64 t.c.u, .int .i64 t.c.v] ∧ Below w.heap.size w wr) ∨ ((s59 = .int .i64 (2 : Nat) ∧ HasBlk wr w.heap.size 87 #[.int .i64 t.a.x, .int .i64 t.a.y, .int .i64 t.a.d, .int .i64 t.a.u, .int .i64 t.a.v, .int .i64 t.b.x, .int .i64 t.b.y, .int .i64 t.b.d, .int .i64 t.b.u, .int .i64 t.b.v, .int .i64 t.c.x, .int .i64 t.c.y, .int .i64 t.c.d, .int .i64 t.c.u, .int .i64 t.c.v] ∧ HasBlk wr (w.heap.size + 1) 86 #[.int .i64 0, .int .i64 0, .int .i64 0, .int .i64 0, .int .i64 0] ∧ HasBlk wr xw 28 #[.int .i64 ((S5.w t.b t.c x y)), .int .i64 ((S5.w t.c t.a x y)), .int .i64 ((S5.w t.a t.b x y))] ∧ HasBlk wr xs 28 #[.int .i64 (((S5.w t.b t.c x y) * t.a.d + (S5.w t.c t.a x y) * t.b.d + (S5.w t.a t.b x y) * t.c.d)), .int .i64 (((S5.w t.b t.c x y) * t.a.d * t.a.u + (S5.w t.c t.a x y) * t.b.d * t.b.u + (S5.w t.a t.b x y) * t.c.d * t.c.u)), .int .i64 (((S5.w t.b t.c x y) * t.a.d * t.a.v + (S5.w t.c t.a x y) * t.b.d * t.b.v))] ∧ HasBlk wr xi 86 #[.int .i64 t.c.x, .int .i64 t.c.y, .int .i64 t.c.d, .int .i64 t.c.u, .int .i64 t.c.v] ∧ Below w.heap.size w wr) ∨ ((s59 = .int .i64 (3 : Nat) ∧ HasBlk wr w.heap.size 87 #[.int .i64 t.a.x, .int .i64 t.a.y, .int .i64 t.a.d, .int .i64 t.a.u, .int .i64 t.a.v, .int .i64 t.b.x, .int .i64 t.b.y, .int .i64 t.b.d, .int .i64 t.b.u, .int .i64 t.b.v, .int .i64 t.c.x, .int .i64 t.c.y, .int .i64 t.c.d, .int .i64 t.c.u, .int .i64 t.c.v] ∧ HasBlk wr (w.heap.size + 1) 86 #[.int .i64 0, .int .i64 0, .int .i64 0, .int .i64 0, .int .i64 0] ∧ HasBlk wr xw 28 #[.int .i64 ((S5.w t.b t.c x y)), .int .i64 ((S5.w t.c t.a x y)), .int .i64 ((S5.w t.a t.b x y))] ∧ HasBlk wr xs 28 #[.int .i64 (((S5.w t.b t.c x y) * t.a.d + (S5.w t.c t.a x y) * t.b.d + (S5.w t.a t.b x y) * t.c.d)), .int .i64 (((S5.w t.b t.c x y) * t.a.d * t.a.u + (S5.w t.c t.a x y) * t.b.d * t.b.u + (S5.w t.a t.b x y) * t.c.d * t.c.u)), .int .i64 (((S5.w t.b t.c x y) * t.a.d * t.a.v + (S5.w t.c t.a x y) * t.b.d * t.b.v + (S5.w t.a t.b x y) * t.c.d * t.c.v))] ∧ HasBlk wr xi 86 #[.int .i64 t.c.x, .int .i64 t.c.y, .int .i64 t.c.d, .int .i64 t.c.u, .int .i64 t.c.v] ∧ Below w.heap.size w wr)))))) (fun s59 wr => 3 - (intOf s59).toNat)
      case atStart => exact Lib.hid (.inl ⟨rfl, BT.out, BR.out, BW_.out, BS.out, BI.out, HB.out⟩)
      case round =>
        clear BT BR BW_ BS BI HB
        rcases hrel.out with ⟨rfl, qBT, qBR, qBW_, qBS, qBI, qHB⟩ | ⟨rfl, qBT, qBR, qBW_, qBS, qBI, qHB⟩ | ⟨rfl, qBT, qBR, qBW_, qBS, qBI, qHB⟩ | ⟨rfl, qBT, qBR, qBW_, qBS, qBI, qHB⟩
        · have BT := Lib.hid qBT
          have BR := Lib.hid qBR
          have BW_ := Lib.hid qBW_
          have BS := Lib.hid qBS
          have BI := Lib.hid qBI
          have HB := Lib.hid qHB
          clear qBT qBR qBW_ qBS qBI qHB
          have hx := ix_num0 1 t.c.u t.c.v
          go_upto_region 17 with fail
          clear hx
          have wb := WB.out
          have bu0 := prd_bd (n := t.a.u) wb.1.1 HT.out.1.2.1 HT.out.1.2.2.1
          have bv0 := prd_bd (n := t.a.v) wb.1.1 HT.out.1.2.1 HT.out.1.2.2.2
          have bu1 := prd_bd (n := t.b.u) wb.1.2.1 HT.out.2.1.2.1 HT.out.2.1.2.2.1
          have bv1 := prd_bd (n := t.b.v) wb.1.2.1 HT.out.2.1.2.1 HT.out.2.1.2.2.2
          have bu2 := prd_bd (n := t.c.u) wb.1.2.2 HT.out.2.2.2.1 HT.out.2.2.2.2.1
          have bv2 := prd_bd (n := t.c.v) wb.1.2.2 HT.out.2.2.2.1 HT.out.2.2.2.2.2
          have w1 : IntKind.i64.wrap ((S5.w t.a t.b x y) * t.c.d) = (S5.w t.a t.b x y) * t.c.d := IntWalk.i64_in _ (by omega)
          have w3 : IntKind.i64.wrap ((S5.w t.b t.c x y) * t.a.d + (S5.w t.c t.a x y) * t.b.d + (S5.w t.a t.b x y) * t.c.d) = (S5.w t.b t.c x y) * t.a.d + (S5.w t.c t.a x y) * t.b.d + (S5.w t.a t.b x y) * t.c.d := IntWalk.i64_in _ (by omega)
          clear wb bu0 bv0 bu1 bv1 bu2 bv2
          have e0 := fun pb : BW wr => BW.cell (BS.out.at 0 rfl) BS.out.lt pb
          have e1 := fun pb : BW wr => BW.cell (BW_.out.at 2 rfl) BW_.out.lt pb
          have e2 := fun pb : BW wr => BW.cell (BI.out.at 2 rfl) BI.out.lt pb
          refine wp_region_bw_tail 13 (by kernel_rfl) (by kernel_rfl) ?_
          simp only [List.take_succ_cons, List.take_zero, List.drop_succ_cons, List.drop_zero]
          repeat (go_big_quiet_step (fail))
          refine wpQuiet_nil ?_
          intro _ hw'
          obtain ⟨pq, hw''⟩ := hw'
          subst hw''
          clear e0 e1 e2
          replace BT := mB BT pq.h
          replace BR := mB BR pq.h
          replace BW_ := mB BW_ pq.h
          replace BS := mB BS pq.h
          replace BI := mB BI pq.h
          replace HB := mT HB pq.h
          generalize pq.W = u3 at *
          clear pq
          have bs_ := BS.out.f3
          go_wp2
          clear bs_
          have qBT := BT.out.far (p := ⟨xs, 0, none⟩) (by have := LS.out; have := LI.out; first | omega | (simp; done) | (simp; omega)) (.int .i64 (((S5.w t.b t.c x y) * t.a.d + (S5.w t.c t.a x y) * t.b.d + (S5.w t.a t.b x y) * t.c.d)))
          have qBR := BR.out.far (p := ⟨xs, 0, none⟩) (by have := LS.out; have := LI.out; first | omega | (simp; done) | (simp; omega)) (.int .i64 (((S5.w t.b t.c x y) * t.a.d + (S5.w t.c t.a x y) * t.b.d + (S5.w t.a t.b x y) * t.c.d)))
          have qBW_ := BW_.out.far (p := ⟨xs, 0, none⟩) (by have := LS.out; have := LI.out; first | omega | (simp; done) | (simp; omega)) (.int .i64 (((S5.w t.b t.c x y) * t.a.d + (S5.w t.c t.a x y) * t.b.d + (S5.w t.a t.b x y) * t.c.d)))
          have qBI := BI.out.far (p := ⟨xs, 0, none⟩) (by have := LS.out; have := LI.out; first | omega | (simp; done) | (simp; omega)) (.int .i64 (((S5.w t.b t.c x y) * t.a.d + (S5.w t.c t.a x y) * t.b.d + (S5.w t.a t.b x y) * t.c.d)))
          have qBS : HasBlk (u3.setCell ⟨xs, 0, none⟩ (.int .i64 (((S5.w t.b t.c x y) * t.a.d + (S5.w t.c t.a x y) * t.b.d + (S5.w t.a t.b x y) * t.c.d)))) xs 28 #[.int .i64 (((S5.w t.b t.c x y) * t.a.d + (S5.w t.c t.a x y) * t.b.d + (S5.w t.a t.b x y) * t.c.d)), .int .i64 (((S5.w t.b t.c x y) * t.a.d * t.a.u + (S5.w t.c t.a x y) * t.b.d * t.b.u)), .int .i64 (((S5.w t.b t.c x y) * t.a.d * t.a.v + (S5.w t.c t.a x y) * t.b.d * t.b.v))] := by simpa using BS.out.set 0 (.int .i64 (((S5.w t.b t.c x y) * t.a.d + (S5.w t.c t.a x y) * t.b.d + (S5.w t.a t.b x y) * t.c.d)))
          have qHB := Below.setCell (p := ⟨xs, 0, none⟩) HB.out (by show w.heap.size ≤ xs; have := LS.out; omega) (.int .i64 (((S5.w t.b t.c x y) * t.a.d + (S5.w t.c t.a x y) * t.b.d + (S5.w t.a t.b x y) * t.c.d)))
          generalize (u3.setCell ⟨xs, 0, none⟩ (.int .i64 (((S5.w t.b t.c x y) * t.a.d + (S5.w t.c t.a x y) * t.b.d + (S5.w t.a t.b x y) * t.c.d)))) = u4 at *
          go_roundw
          case rel => exact Lib.hid (.inr ((.inl ⟨by go_num, qBT, qBR, qBW_, qBS, qBI, qHB⟩)))
          case measure => simp [intOf]
        · have BT := Lib.hid qBT
          have BR := Lib.hid qBR
          have BW_ := Lib.hid qBW_
          have BS := Lib.hid qBS
          have BI := Lib.hid qBI
          have HB := Lib.hid qHB
          clear qBT qBR qBW_ qBS qBI qHB
          have hx := ix_num1 1 t.c.u t.c.v
          go_upto_region 17 with fail
          clear hx
          have wb := WB.out
          have bu0 := prd_bd (n := t.a.u) wb.1.1 HT.out.1.2.1 HT.out.1.2.2.1
          have bv0 := prd_bd (n := t.a.v) wb.1.1 HT.out.1.2.1 HT.out.1.2.2.2
          have bu1 := prd_bd (n := t.b.u) wb.1.2.1 HT.out.2.1.2.1 HT.out.2.1.2.2.1
          have bv1 := prd_bd (n := t.b.v) wb.1.2.1 HT.out.2.1.2.1 HT.out.2.1.2.2.2
          have bu2 := prd_bd (n := t.c.u) wb.1.2.2 HT.out.2.2.2.1 HT.out.2.2.2.2.1
          have bv2 := prd_bd (n := t.c.v) wb.1.2.2 HT.out.2.2.2.1 HT.out.2.2.2.2.2
          have w1 : IntKind.i64.wrap ((S5.w t.a t.b x y) * t.c.d) = (S5.w t.a t.b x y) * t.c.d := IntWalk.i64_in _ (by omega)
          have w2 : IntKind.i64.wrap ((S5.w t.a t.b x y) * t.c.d * t.c.u) = (S5.w t.a t.b x y) * t.c.d * t.c.u := IntWalk.i64_in _ (by omega)
          have w3 : IntKind.i64.wrap ((S5.w t.b t.c x y) * t.a.d * t.a.u + (S5.w t.c t.a x y) * t.b.d * t.b.u + (S5.w t.a t.b x y) * t.c.d * t.c.u) = (S5.w t.b t.c x y) * t.a.d * t.a.u + (S5.w t.c t.a x y) * t.b.d * t.b.u + (S5.w t.a t.b x y) * t.c.d * t.c.u := IntWalk.i64_in _ (by omega)
          clear wb bu0 bv0 bu1 bv1 bu2 bv2
          have e0 := fun pb : BW wr => BW.cell (BS.out.at 1 rfl) BS.out.lt pb
          have e1 := fun pb : BW wr => BW.cell (BW_.out.at 2 rfl) BW_.out.lt pb
          have e2 := fun pb : BW wr => BW.cell (BI.out.at 2 rfl) BI.out.lt pb
          refine wp_region_bw_tail 13 (by kernel_rfl) (by kernel_rfl) ?_
          simp only [List.take_succ_cons, List.take_zero, List.drop_succ_cons, List.drop_zero]
          repeat (go_big_quiet_step (fail))
          refine wpQuiet_nil ?_
          intro _ hw'
          obtain ⟨pq, hw''⟩ := hw'
          subst hw''
          clear e0 e1 e2
          replace BT := mB BT pq.h
          replace BR := mB BR pq.h
          replace BW_ := mB BW_ pq.h
          replace BS := mB BS pq.h
          replace BI := mB BI pq.h
          replace HB := mT HB pq.h
          generalize pq.W = u3 at *
          clear pq
          have bs_ := BS.out.f3
          go_wp2
          clear bs_
          have qBT := BT.out.far (p := ⟨xs, 1, none⟩) (by have := LS.out; have := LI.out; first | omega | (simp; done) | (simp; omega)) (.int .i64 (((S5.w t.b t.c x y) * t.a.d * t.a.u + (S5.w t.c t.a x y) * t.b.d * t.b.u + (S5.w t.a t.b x y) * t.c.d * t.c.u)))
          have qBR := BR.out.far (p := ⟨xs, 1, none⟩) (by have := LS.out; have := LI.out; first | omega | (simp; done) | (simp; omega)) (.int .i64 (((S5.w t.b t.c x y) * t.a.d * t.a.u + (S5.w t.c t.a x y) * t.b.d * t.b.u + (S5.w t.a t.b x y) * t.c.d * t.c.u)))
          have qBW_ := BW_.out.far (p := ⟨xs, 1, none⟩) (by have := LS.out; have := LI.out; first | omega | (simp; done) | (simp; omega)) (.int .i64 (((S5.w t.b t.c x y) * t.a.d * t.a.u + (S5.w t.c t.a x y) * t.b.d * t.b.u + (S5.w t.a t.b x y) * t.c.d * t.c.u)))
          have qBI := BI.out.far (p := ⟨xs, 1, none⟩) (by have := LS.out; have := LI.out; first | omega | (simp; done) | (simp; omega)) (.int .i64 (((S5.w t.b t.c x y) * t.a.d * t.a.u + (S5.w t.c t.a x y) * t.b.d * t.b.u + (S5.w t.a t.b x y) * t.c.d * t.c.u)))
          have qBS : HasBlk (u3.setCell ⟨xs, 1, none⟩ (.int .i64 (((S5.w t.b t.c x y) * t.a.d * t.a.u + (S5.w t.c t.a x y) * t.b.d * t.b.u + (S5.w t.a t.b x y) * t.c.d * t.c.u)))) xs 28 #[.int .i64 (((S5.w t.b t.c x y) * t.a.d + (S5.w t.c t.a x y) * t.b.d + (S5.w t.a t.b x y) * t.c.d)), .int .i64 (((S5.w t.b t.c x y) * t.a.d * t.a.u + (S5.w t.c t.a x y) * t.b.d * t.b.u + (S5.w t.a t.b x y) * t.c.d * t.c.u)), .int .i64 (((S5.w t.b t.c x y) * t.a.d * t.a.v + (S5.w t.c t.a x y) * t.b.d * t.b.v))] := by simpa using BS.out.set 1 (.int .i64 (((S5.w t.b t.c x y) * t.a.d * t.a.u + (S5.w t.c t.a x y) * t.b.d * t.b.u + (S5.w t.a t.b x y) * t.c.d * t.c.u)))
          have qHB := Below.setCell (p := ⟨xs, 1, none⟩) HB.out (by show w.heap.size ≤ xs; have := LS.out; omega) (.int .i64 (((S5.w t.b t.c x y) * t.a.d * t.a.u + (S5.w t.c t.a x y) * t.b.d * t.b.u + (S5.w t.a t.b x y) * t.c.d * t.c.u)))
          generalize (u3.setCell ⟨xs, 1, none⟩ (.int .i64 (((S5.w t.b t.c x y) * t.a.d * t.a.u + (S5.w t.c t.a x y) * t.b.d * t.b.u + (S5.w t.a t.b x y) * t.c.d * t.c.u)))) = u4 at *
          go_roundw
          case rel => exact Lib.hid (.inr (.inr ((.inl ⟨by go_num, qBT, qBR, qBW_, qBS, qBI, qHB⟩))))
          case measure => simp [intOf]
        · have BT := Lib.hid qBT
          have BR := Lib.hid qBR
          have BW_ := Lib.hid qBW_
          have BS := Lib.hid qBS
          have BI := Lib.hid qBI
          have HB := Lib.hid qHB
          clear qBT qBR qBW_ qBS qBI qHB
          have hx := ix_num2 1 t.c.u t.c.v
          go_upto_region 17 with fail
          clear hx
          have wb := WB.out
          have bu0 := prd_bd (n := t.a.u) wb.1.1 HT.out.1.2.1 HT.out.1.2.2.1
          have bv0 := prd_bd (n := t.a.v) wb.1.1 HT.out.1.2.1 HT.out.1.2.2.2
          have bu1 := prd_bd (n := t.b.u) wb.1.2.1 HT.out.2.1.2.1 HT.out.2.1.2.2.1
          have bv1 := prd_bd (n := t.b.v) wb.1.2.1 HT.out.2.1.2.1 HT.out.2.1.2.2.2
          have bu2 := prd_bd (n := t.c.u) wb.1.2.2 HT.out.2.2.2.1 HT.out.2.2.2.2.1
          have bv2 := prd_bd (n := t.c.v) wb.1.2.2 HT.out.2.2.2.1 HT.out.2.2.2.2.2
          have w1 : IntKind.i64.wrap ((S5.w t.a t.b x y) * t.c.d) = (S5.w t.a t.b x y) * t.c.d := IntWalk.i64_in _ (by omega)
          have w2 : IntKind.i64.wrap ((S5.w t.a t.b x y) * t.c.d * t.c.v) = (S5.w t.a t.b x y) * t.c.d * t.c.v := IntWalk.i64_in _ (by omega)
          have w3 : IntKind.i64.wrap ((S5.w t.b t.c x y) * t.a.d * t.a.v + (S5.w t.c t.a x y) * t.b.d * t.b.v + (S5.w t.a t.b x y) * t.c.d * t.c.v) = (S5.w t.b t.c x y) * t.a.d * t.a.v + (S5.w t.c t.a x y) * t.b.d * t.b.v + (S5.w t.a t.b x y) * t.c.d * t.c.v := IntWalk.i64_in _ (by omega)
          clear wb bu0 bv0 bu1 bv1 bu2 bv2
          have e0 := fun pb : BW wr => BW.cell (BS.out.at 2 rfl) BS.out.lt pb
          have e1 := fun pb : BW wr => BW.cell (BW_.out.at 2 rfl) BW_.out.lt pb
          have e2 := fun pb : BW wr => BW.cell (BI.out.at 2 rfl) BI.out.lt pb
          refine wp_region_bw_tail 13 (by kernel_rfl) (by kernel_rfl) ?_
          simp only [List.take_succ_cons, List.take_zero, List.drop_succ_cons, List.drop_zero]
          repeat (go_big_quiet_step (fail))
          refine wpQuiet_nil ?_
          intro _ hw'
          obtain ⟨pq, hw''⟩ := hw'
          subst hw''
          clear e0 e1 e2
          replace BT := mB BT pq.h
          replace BR := mB BR pq.h
          replace BW_ := mB BW_ pq.h
          replace BS := mB BS pq.h
          replace BI := mB BI pq.h
          replace HB := mT HB pq.h
          generalize pq.W = u3 at *
          clear pq
          have bs_ := BS.out.f3
          go_wp2
          clear bs_
          have qBT := BT.out.far (p := ⟨xs, 2, none⟩) (by have := LS.out; have := LI.out; first | omega | (simp; done) | (simp; omega)) (.int .i64 (((S5.w t.b t.c x y) * t.a.d * t.a.v + (S5.w t.c t.a x y) * t.b.d * t.b.v + (S5.w t.a t.b x y) * t.c.d * t.c.v)))
          have qBR := BR.out.far (p := ⟨xs, 2, none⟩) (by have := LS.out; have := LI.out; first | omega | (simp; done) | (simp; omega)) (.int .i64 (((S5.w t.b t.c x y) * t.a.d * t.a.v + (S5.w t.c t.a x y) * t.b.d * t.b.v + (S5.w t.a t.b x y) * t.c.d * t.c.v)))
          have qBW_ := BW_.out.far (p := ⟨xs, 2, none⟩) (by have := LS.out; have := LI.out; first | omega | (simp; done) | (simp; omega)) (.int .i64 (((S5.w t.b t.c x y) * t.a.d * t.a.v + (S5.w t.c t.a x y) * t.b.d * t.b.v + (S5.w t.a t.b x y) * t.c.d * t.c.v)))
          have qBI := BI.out.far (p := ⟨xs, 2, none⟩) (by have := LS.out; have := LI.out; first | omega | (simp; done) | (simp; omega)) (.int .i64 (((S5.w t.b t.c x y) * t.a.d * t.a.v + (S5.w t.c t.a x y) * t.b.d * t.b.v + (S5.w t.a t.b x y) * t.c.d * t.c.v)))
          have qBS : HasBlk (u3.setCell ⟨xs, 2, none⟩ (.int .i64 (((S5.w t.b t.c x y) * t.a.d * t.a.v + (S5.w t.c t.a x y) * t.b.d * t.b.v + (S5.w t.a t.b x y) * t.c.d * t.c.v)))) xs 28 #[.int .i64 (((S5.w t.b t.c x y) * t.a.d + (S5.w t.c t.a x y) * t.b.d + (S5.w t.a t.b x y) * t.c.d)), .int .i64 (((S5.w t.b t.c x y) * t.a.d * t.a.u + (S5.w t.c t.a x y) * t.b.d * t.b.u + (S5.w t.a t.b x y) * t.c.d * t.c.u)), .int .i64 (((S5.w t.b t.c x y) * t.a.d * t.a.v + (S5.w t.c t.a x y) * t.b.d * t.b.v + (S5.w t.a t.b x y) * t.c.d * t.c.v))] := by simpa using BS.out.set 2 (.int .i64 (((S5.w t.b t.c x y) * t.a.d * t.a.v + (S5.w t.c t.a x y) * t.b.d * t.b.v + (S5.w t.a t.b x y) * t.c.d * t.c.v)))
          have qHB := Below.setCell (p := ⟨xs, 2, none⟩) HB.out (by show w.heap.size ≤ xs; have := LS.out; omega) (.int .i64 (((S5.w t.b t.c x y) * t.a.d * t.a.v + (S5.w t.c t.a x y) * t.b.d * t.b.v + (S5.w t.a t.b x y) * t.c.d * t.c.v)))
          generalize (u3.setCell ⟨xs, 2, none⟩ (.int .i64 (((S5.w t.b t.c x y) * t.a.d * t.a.v + (S5.w t.c t.a x y) * t.b.d * t.b.v + (S5.w t.a t.b x y) * t.c.d * t.c.v)))) = u4 at *
          go_roundw
          case rel => exact Lib.hid (.inr (.inr (.inr (⟨by go_num, qBT, qBR, qBW_, qBS, qBI, qHB⟩))))
          case measure => simp [intOf]
        · have BT := Lib.hid qBT
          have BR := Lib.hid qBR
          have BW_ := Lib.hid qBW_
          have BS := Lib.hid qBS
          have BI := Lib.hid qBI
          have HB := Lib.hid qHB
          clear qBT qBR qBW_ qBS qBI qHB
          clear BI
          go_wp2
          go_roundw
          case rel => exact Lib.hid (.inr (.inr (.inr (⟨by go_num, rfl, BT.out, BR.out, BW_.out, BS.out, HB.out⟩))))
          case measure => simp [intOf]
    · have BT := Lib.hid qBT
      have BR := Lib.hid qBR
      have BW_ := Lib.hid qBW_
      have BS := Lib.hid qBS
      have HB := Lib.hid qHB
      clear qBT qBR qBW_ qBS qHB
      have hxp := HP.out
      unfold Pix at hxp
      have w1 : IntKind.i64.wrap (8 * x) = 8 * x := IntWalk.i64_in _ (by omega)
      have w2 : IntKind.i64.wrap (8 * x + 4) = 8 * x + 4 := IntWalk.i64_in _ (by omega)
      have w3 : IntKind.i64.wrap (8 * y) = 8 * y := IntWalk.i64_in _ (by omega)
      have w4 : IntKind.i64.wrap (8 * y + 4) = 8 * y + 4 := IntWalk.i64_in _ (by omega)
      clear hxp
      have hb := bld_86 (8 * x + 4) (8 * y + 4)
      go_upto_region 21 with fail
      have LP := Lib.hid (show xs < wr.heap.size ∧ xw < wr.heap.size from ⟨BS.out.lt, BW_.out.lt⟩)
      obtain ⟨u0, xp, hz, hx', BP, bA⟩ := laidB wr 86 #[.int .i64 ((8 * x + 4)), .int .i64 ((8 * y + 4)), .int .i64 0, .int .i64 0, .int .i64 0]
      rw [← hz.out, ← hx'.out]
      rw [← hx'.out] at LP
      replace BT := mB BT bA
      replace BR := mB BR bA
      replace BW_ := mB BW_ bA
      replace BS := mB BS bA
      replace HB := mT HB bA
      clear hz hx' bA
      clear hb w1 w2 w3 w4
      have wb := WB.out
      have bu0 := prd_bd (n := t.a.u) wb.1.1 HT.out.1.2.1 HT.out.1.2.2.1
      have bv0 := prd_bd (n := t.a.v) wb.1.1 HT.out.1.2.1 HT.out.1.2.2.2
      have bu1 := prd_bd (n := t.b.u) wb.1.2.1 HT.out.2.1.2.1 HT.out.2.1.2.2.1
      have bv1 := prd_bd (n := t.b.v) wb.1.2.1 HT.out.2.1.2.1 HT.out.2.1.2.2.2
      have bu2 := prd_bd (n := t.c.u) wb.1.2.2 HT.out.2.2.2.1 HT.out.2.2.2.2.1
      have bv2 := prd_bd (n := t.c.v) wb.1.2.2 HT.out.2.2.2.1 HT.out.2.2.2.2.2
      have KD := Lib.hid (fun W => floor_any ((S5.w t.b t.c x y) * t.a.d + (S5.w t.c t.a x y) * t.b.d + (S5.w t.a t.b x y) * t.c.d) ((S5.w t.b t.c x y) + (S5.w t.c t.a x y) + (S5.w t.a t.b x y)) (by omega) (by omega) (by omega) W)
      have KU := Lib.hid (fun W => floor_any ((S5.w t.b t.c x y) * t.a.d * t.a.u + (S5.w t.c t.a x y) * t.b.d * t.b.u + (S5.w t.a t.b x y) * t.c.d * t.c.u) ((S5.w t.b t.c x y) * t.a.d + (S5.w t.c t.a x y) * t.b.d + (S5.w t.a t.b x y) * t.c.d) (by omega) (by omega) (by omega) W)
      have KV := Lib.hid (fun W => floor_any ((S5.w t.b t.c x y) * t.a.d * t.a.v + (S5.w t.c t.a x y) * t.b.d * t.b.v + (S5.w t.a t.b x y) * t.c.d * t.c.v) ((S5.w t.b t.c x y) * t.a.d + (S5.w t.c t.a x y) * t.b.d + (S5.w t.a t.b x y) * t.c.d) (by omega) (by omega) (by omega) W)
      clear wb bu0 bv0 bu1 bv1 bu2 bv2
      have bs_ := BS.out.c3
      have KX := Lib.hid (KD.out u0)
      go_wp2_with fail
      refine KX.out.mono ?_
      rintro e p0 ⟨rfl, bel⟩
      clear KX
      clear bs_
      replace BT := mB BT bel
      replace BR := mB BR bel
      replace BW_ := mB BW_ bel
      replace BS := mB BS bel
      replace BP := mB BP bel
      replace HB := mT HB bel
      clear bel
      have bp_ := BP.out.f5
      go_upto_region 22 with fail
      clear bp_
      have qBT := BT.out.far (p := ⟨xp, 2, none⟩) (by have := LS.out; have := LP.out; first | omega | (simp; done) | (simp; omega)) (.int .i64 ((((S5.w t.b t.c x y) * t.a.d + (S5.w t.c t.a x y) * t.b.d + (S5.w t.a t.b x y) * t.c.d) / ((S5.w t.b t.c x y) + (S5.w t.c t.a x y) + (S5.w t.a t.b x y)))))
      have qBR := BR.out.far (p := ⟨xp, 2, none⟩) (by have := LS.out; have := LP.out; first | omega | (simp; done) | (simp; omega)) (.int .i64 ((((S5.w t.b t.c x y) * t.a.d + (S5.w t.c t.a x y) * t.b.d + (S5.w t.a t.b x y) * t.c.d) / ((S5.w t.b t.c x y) + (S5.w t.c t.a x y) + (S5.w t.a t.b x y)))))
      have qBW_ := BW_.out.far (p := ⟨xp, 2, none⟩) (by have := LS.out; have := LP.out; first | omega | (simp; done) | (simp; omega)) (.int .i64 ((((S5.w t.b t.c x y) * t.a.d + (S5.w t.c t.a x y) * t.b.d + (S5.w t.a t.b x y) * t.c.d) / ((S5.w t.b t.c x y) + (S5.w t.c t.a x y) + (S5.w t.a t.b x y)))))
      have qBS := BS.out.far (p := ⟨xp, 2, none⟩) (by have := LS.out; have := LP.out; first | omega | (simp; done) | (simp; omega)) (.int .i64 ((((S5.w t.b t.c x y) * t.a.d + (S5.w t.c t.a x y) * t.b.d + (S5.w t.a t.b x y) * t.c.d) / ((S5.w t.b t.c x y) + (S5.w t.c t.a x y) + (S5.w t.a t.b x y)))))
      have qBP : HasBlk (p0.setCell ⟨xp, 2, none⟩ (.int .i64 ((((S5.w t.b t.c x y) * t.a.d + (S5.w t.c t.a x y) * t.b.d + (S5.w t.a t.b x y) * t.c.d) / ((S5.w t.b t.c x y) + (S5.w t.c t.a x y) + (S5.w t.a t.b x y)))))) xp 86 #[.int .i64 ((8 * x + 4)), .int .i64 ((8 * y + 4)), .int .i64 ((((S5.w t.b t.c x y) * t.a.d + (S5.w t.c t.a x y) * t.b.d + (S5.w t.a t.b x y) * t.c.d) / ((S5.w t.b t.c x y) + (S5.w t.c t.a x y) + (S5.w t.a t.b x y)))), .int .i64 0, .int .i64 0] := by simpa using BP.out.set 2 (.int .i64 ((((S5.w t.b t.c x y) * t.a.d + (S5.w t.c t.a x y) * t.b.d + (S5.w t.a t.b x y) * t.c.d) / ((S5.w t.b t.c x y) + (S5.w t.c t.a x y) + (S5.w t.a t.b x y)))))
      have qHB := Below.setCell (p := ⟨xp, 2, none⟩) HB.out (by show w.heap.size ≤ xp; have := LS.out; have := LP.out; omega) (.int .i64 ((((S5.w t.b t.c x y) * t.a.d + (S5.w t.c t.a x y) * t.b.d + (S5.w t.a t.b x y) * t.c.d) / ((S5.w t.b t.c x y) + (S5.w t.c t.a x y) + (S5.w t.a t.b x y)))))
      clear BT BR BW_ BS BP HB
      have BT := Lib.hid qBT
      have BR := Lib.hid qBR
      have BW_ := Lib.hid qBW_
      have BS := Lib.hid qBS
      have BP := Lib.hid qBP
      have HB := Lib.hid qHB
      clear qBT qBR qBW_ qBS qBP qHB
      generalize (p0.setCell ⟨xp, 2, none⟩ (.int .i64 ((((S5.w t.b t.c x y) * t.a.d + (S5.w t.c t.a x y) * t.b.d + (S5.w t.a t.b x y) * t.c.d) / ((S5.w t.b t.c x y) + (S5.w t.c t.a x y) + (S5.w t.a t.b x y)))))) = r0 at *
      have bs_ := BS.out.c3
      have KX := Lib.hid (KU.out r0)
      go_wp2_with fail
      refine KX.out.mono ?_
      rintro e p1 ⟨rfl, bel⟩
      clear KX
      clear bs_
      replace BT := mB BT bel
      replace BR := mB BR bel
      replace BW_ := mB BW_ bel
      replace BS := mB BS bel
      replace BP := mB BP bel
      replace HB := mT HB bel
      clear bel
      have bp_ := BP.out.f5
      go_upto_region 23 with fail
      clear bp_
      have qBT := BT.out.far (p := ⟨xp, 3, none⟩) (by have := LS.out; have := LP.out; first | omega | (simp; done) | (simp; omega)) (.int .i64 ((((S5.w t.b t.c x y) * t.a.d * t.a.u + (S5.w t.c t.a x y) * t.b.d * t.b.u + (S5.w t.a t.b x y) * t.c.d * t.c.u) / ((S5.w t.b t.c x y) * t.a.d + (S5.w t.c t.a x y) * t.b.d + (S5.w t.a t.b x y) * t.c.d))))
      have qBR := BR.out.far (p := ⟨xp, 3, none⟩) (by have := LS.out; have := LP.out; first | omega | (simp; done) | (simp; omega)) (.int .i64 ((((S5.w t.b t.c x y) * t.a.d * t.a.u + (S5.w t.c t.a x y) * t.b.d * t.b.u + (S5.w t.a t.b x y) * t.c.d * t.c.u) / ((S5.w t.b t.c x y) * t.a.d + (S5.w t.c t.a x y) * t.b.d + (S5.w t.a t.b x y) * t.c.d))))
      have qBW_ := BW_.out.far (p := ⟨xp, 3, none⟩) (by have := LS.out; have := LP.out; first | omega | (simp; done) | (simp; omega)) (.int .i64 ((((S5.w t.b t.c x y) * t.a.d * t.a.u + (S5.w t.c t.a x y) * t.b.d * t.b.u + (S5.w t.a t.b x y) * t.c.d * t.c.u) / ((S5.w t.b t.c x y) * t.a.d + (S5.w t.c t.a x y) * t.b.d + (S5.w t.a t.b x y) * t.c.d))))
      have qBS := BS.out.far (p := ⟨xp, 3, none⟩) (by have := LS.out; have := LP.out; first | omega | (simp; done) | (simp; omega)) (.int .i64 ((((S5.w t.b t.c x y) * t.a.d * t.a.u + (S5.w t.c t.a x y) * t.b.d * t.b.u + (S5.w t.a t.b x y) * t.c.d * t.c.u) / ((S5.w t.b t.c x y) * t.a.d + (S5.w t.c t.a x y) * t.b.d + (S5.w t.a t.b x y) * t.c.d))))
      have qBP : HasBlk (p1.setCell ⟨xp, 3, none⟩ (.int .i64 ((((S5.w t.b t.c x y) * t.a.d * t.a.u + (S5.w t.c t.a x y) * t.b.d * t.b.u + (S5.w t.a t.b x y) * t.c.d * t.c.u) / ((S5.w t.b t.c x y) * t.a.d + (S5.w t.c t.a x y) * t.b.d + (S5.w t.a t.b x y) * t.c.d))))) xp 86 #[.int .i64 ((8 * x + 4)), .int .i64 ((8 * y + 4)), .int .i64 ((((S5.w t.b t.c x y) * t.a.d + (S5.w t.c t.a x y) * t.b.d + (S5.w t.a t.b x y) * t.c.d) / ((S5.w t.b t.c x y) + (S5.w t.c t.a x y) + (S5.w t.a t.b x y)))), .int .i64 ((((S5.w t.b t.c x y) * t.a.d * t.a.u + (S5.w t.c t.a x y) * t.b.d * t.b.u + (S5.w t.a t.b x y) * t.c.d * t.c.u) / ((S5.w t.b t.c x y) * t.a.d + (S5.w t.c t.a x y) * t.b.d + (S5.w t.a t.b x y) * t.c.d))), .int .i64 0] := by simpa using BP.out.set 3 (.int .i64 ((((S5.w t.b t.c x y) * t.a.d * t.a.u + (S5.w t.c t.a x y) * t.b.d * t.b.u + (S5.w t.a t.b x y) * t.c.d * t.c.u) / ((S5.w t.b t.c x y) * t.a.d + (S5.w t.c t.a x y) * t.b.d + (S5.w t.a t.b x y) * t.c.d))))
      have qHB := Below.setCell (p := ⟨xp, 3, none⟩) HB.out (by show w.heap.size ≤ xp; have := LS.out; have := LP.out; omega) (.int .i64 ((((S5.w t.b t.c x y) * t.a.d * t.a.u + (S5.w t.c t.a x y) * t.b.d * t.b.u + (S5.w t.a t.b x y) * t.c.d * t.c.u) / ((S5.w t.b t.c x y) * t.a.d + (S5.w t.c t.a x y) * t.b.d + (S5.w t.a t.b x y) * t.c.d))))
      clear BT BR BW_ BS BP HB
      have BT := Lib.hid qBT
      have BR := Lib.hid qBR
      have BW_ := Lib.hid qBW_
      have BS := Lib.hid qBS
      have BP := Lib.hid qBP
      have HB := Lib.hid qHB
      clear qBT qBR qBW_ qBS qBP qHB
      generalize (p1.setCell ⟨xp, 3, none⟩ (.int .i64 ((((S5.w t.b t.c x y) * t.a.d * t.a.u + (S5.w t.c t.a x y) * t.b.d * t.b.u + (S5.w t.a t.b x y) * t.c.d * t.c.u) / ((S5.w t.b t.c x y) * t.a.d + (S5.w t.c t.a x y) * t.b.d + (S5.w t.a t.b x y) * t.c.d))))) = r1 at *
      have bs_ := BS.out.c3
      have KX := Lib.hid (KV.out r1)
      go_wp2_with fail
      refine KX.out.mono ?_
      rintro e p2 ⟨rfl, bel⟩
      clear KX
      clear bs_
      replace BT := mB BT bel
      replace BR := mB BR bel
      replace BW_ := mB BW_ bel
      replace BS := mB BS bel
      replace BP := mB BP bel
      replace HB := mT HB bel
      clear bel
      have bp_ := BP.out.f5
      go_upto_region 24 with fail
      clear bp_
      have qBT := BT.out.far (p := ⟨xp, 4, none⟩) (by have := LS.out; have := LP.out; first | omega | (simp; done) | (simp; omega)) (.int .i64 ((((S5.w t.b t.c x y) * t.a.d * t.a.v + (S5.w t.c t.a x y) * t.b.d * t.b.v + (S5.w t.a t.b x y) * t.c.d * t.c.v) / ((S5.w t.b t.c x y) * t.a.d + (S5.w t.c t.a x y) * t.b.d + (S5.w t.a t.b x y) * t.c.d))))
      have qBR := BR.out.far (p := ⟨xp, 4, none⟩) (by have := LS.out; have := LP.out; first | omega | (simp; done) | (simp; omega)) (.int .i64 ((((S5.w t.b t.c x y) * t.a.d * t.a.v + (S5.w t.c t.a x y) * t.b.d * t.b.v + (S5.w t.a t.b x y) * t.c.d * t.c.v) / ((S5.w t.b t.c x y) * t.a.d + (S5.w t.c t.a x y) * t.b.d + (S5.w t.a t.b x y) * t.c.d))))
      have qBW_ := BW_.out.far (p := ⟨xp, 4, none⟩) (by have := LS.out; have := LP.out; first | omega | (simp; done) | (simp; omega)) (.int .i64 ((((S5.w t.b t.c x y) * t.a.d * t.a.v + (S5.w t.c t.a x y) * t.b.d * t.b.v + (S5.w t.a t.b x y) * t.c.d * t.c.v) / ((S5.w t.b t.c x y) * t.a.d + (S5.w t.c t.a x y) * t.b.d + (S5.w t.a t.b x y) * t.c.d))))
      have qBS := BS.out.far (p := ⟨xp, 4, none⟩) (by have := LS.out; have := LP.out; first | omega | (simp; done) | (simp; omega)) (.int .i64 ((((S5.w t.b t.c x y) * t.a.d * t.a.v + (S5.w t.c t.a x y) * t.b.d * t.b.v + (S5.w t.a t.b x y) * t.c.d * t.c.v) / ((S5.w t.b t.c x y) * t.a.d + (S5.w t.c t.a x y) * t.b.d + (S5.w t.a t.b x y) * t.c.d))))
      have qBP : HasBlk (p2.setCell ⟨xp, 4, none⟩ (.int .i64 ((((S5.w t.b t.c x y) * t.a.d * t.a.v + (S5.w t.c t.a x y) * t.b.d * t.b.v + (S5.w t.a t.b x y) * t.c.d * t.c.v) / ((S5.w t.b t.c x y) * t.a.d + (S5.w t.c t.a x y) * t.b.d + (S5.w t.a t.b x y) * t.c.d))))) xp 86 #[.int .i64 ((8 * x + 4)), .int .i64 ((8 * y + 4)), .int .i64 ((((S5.w t.b t.c x y) * t.a.d + (S5.w t.c t.a x y) * t.b.d + (S5.w t.a t.b x y) * t.c.d) / ((S5.w t.b t.c x y) + (S5.w t.c t.a x y) + (S5.w t.a t.b x y)))), .int .i64 ((((S5.w t.b t.c x y) * t.a.d * t.a.u + (S5.w t.c t.a x y) * t.b.d * t.b.u + (S5.w t.a t.b x y) * t.c.d * t.c.u) / ((S5.w t.b t.c x y) * t.a.d + (S5.w t.c t.a x y) * t.b.d + (S5.w t.a t.b x y) * t.c.d))), .int .i64 ((((S5.w t.b t.c x y) * t.a.d * t.a.v + (S5.w t.c t.a x y) * t.b.d * t.b.v + (S5.w t.a t.b x y) * t.c.d * t.c.v) / ((S5.w t.b t.c x y) * t.a.d + (S5.w t.c t.a x y) * t.b.d + (S5.w t.a t.b x y) * t.c.d)))] := by simpa using BP.out.set 4 (.int .i64 ((((S5.w t.b t.c x y) * t.a.d * t.a.v + (S5.w t.c t.a x y) * t.b.d * t.b.v + (S5.w t.a t.b x y) * t.c.d * t.c.v) / ((S5.w t.b t.c x y) * t.a.d + (S5.w t.c t.a x y) * t.b.d + (S5.w t.a t.b x y) * t.c.d))))
      have qHB := Below.setCell (p := ⟨xp, 4, none⟩) HB.out (by show w.heap.size ≤ xp; have := LS.out; have := LP.out; omega) (.int .i64 ((((S5.w t.b t.c x y) * t.a.d * t.a.v + (S5.w t.c t.a x y) * t.b.d * t.b.v + (S5.w t.a t.b x y) * t.c.d * t.c.v) / ((S5.w t.b t.c x y) * t.a.d + (S5.w t.c t.a x y) * t.b.d + (S5.w t.a t.b x y) * t.c.d))))
      clear BT BR BW_ BS BP HB
      have BT := Lib.hid qBT
      have BR := Lib.hid qBR
      have BW_ := Lib.hid qBW_
      have BS := Lib.hid qBS
      have BP := Lib.hid qBP
      have HB := Lib.hid qHB
      clear qBT qBR qBW_ qBS qBP qHB
      generalize (p2.setCell ⟨xp, 4, none⟩ (.int .i64 ((((S5.w t.b t.c x y) * t.a.d * t.a.v + (S5.w t.c t.a x y) * t.b.d * t.b.v + (S5.w t.a t.b x y) * t.c.d * t.c.v) / ((S5.w t.b t.c x y) * t.a.d + (S5.w t.c t.a x y) * t.b.d + (S5.w t.a t.b x y) * t.c.d))))) = r2 at *
      have bp_ := BP.out.c5
      have br_ := BR.out.f5
      go_wp2
      refine bodyPost_ret (v := .tuple #[.agg #[.int .i64 ((8 * x + 4)), .int .i64 ((8 * y + 4)), .int .i64 ((((S5.w t.b t.c x y) * t.a.d + (S5.w t.c t.a x y) * t.b.d + (S5.w t.a t.b x y) * t.c.d) / ((S5.w t.b t.c x y) + (S5.w t.c t.a x y) + (S5.w t.a t.b x y)))), .int .i64 ((((S5.w t.b t.c x y) * t.a.d * t.a.u + (S5.w t.c t.a x y) * t.b.d * t.b.u + (S5.w t.a t.b x y) * t.c.d * t.c.u) / ((S5.w t.b t.c x y) * t.a.d + (S5.w t.c t.a x y) * t.b.d + (S5.w t.a t.b x y) * t.c.d))), .int .i64 ((((S5.w t.b t.c x y) * t.a.d * t.a.v + (S5.w t.c t.a x y) * t.b.d * t.b.v + (S5.w t.a t.b x y) * t.c.d * t.c.v) / ((S5.w t.b t.c x y) * t.a.d + (S5.w t.c t.a x y) * t.b.d + (S5.w t.a t.b x y) * t.c.d)))], .int .i64 0]) (by simp [results, Tryd.results22, go_sem, *]) rfl ⟨by first | (rw [HC.out]; done) | (rw [HC.out]; rfl), ?_⟩
      repeat (refine Below.setCell ?_ (by first | omega | (simp; done) | (simp; omega)) _)
      exact HB.out
end Go.Proofs.YtemopgpcpjnmkaaDoor
