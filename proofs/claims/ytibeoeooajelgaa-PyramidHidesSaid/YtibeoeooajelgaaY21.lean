/- pyramid: PyramidHides. -/
import Derived.Test.YtibeoeooajelgaaAl
import Derived.Test.YtibeoeooajelgaaF18
namespace Go.Proofs.Ytibeoeooajelgaa
open Go.RowKit
set_option linter.unusedVariables false
/-- Where a shade is hidden: the pixel is somebody's, and nearer. -/
def FD.Near (f : FD) (D : Int) (x y : Int) : Prop := f.In x y ∧ ∀ k : Nat, y * f.W + x = k → 0 ≤ f.I k ∧ D < f.D k
theorem hid_near {f : FD} (h : f.May) {k : Nat} (ht : f.ld.Top k) {r : RC} {D x y e : Int} (hh : HidR (f.ld.pd k) r D true e) (h1 : r.X0 ≤ x) (h2 : x ≤ r.X1) (h3 : r.Y0 ≤ y) (h4 : y ≤ r.Y1) : f.Near D x y := by
  obtain ⟨m, e0, hl, hd⟩ := hh
  rcases hd with ⟨_, q, _⟩ | ⟨_, _, q, _⟩ | ⟨he, hD, hb, _⟩
  · cases q
  · cases q
  have hDm : D < m := of_decide_eq_true hb.symm
  rcases LowR.built h ht hl with ⟨_, _, q⟩ | ⟨hbad, _, hlst⟩
  · omega
  have ⟨hW, hH, hp⟩ := h
  unfold RC.Bad at hbad
  obtain ⟨a, rfl⟩ := Int.eq_ofNat_of_zero_le (show 0 ≤ x by omega)
  obtain ⟨b, rfl⟩ := Int.eq_ofNat_of_zero_le (show 0 ≤ y by omega)
  refine ⟨⟨by omega, by omega, by omega, by omega⟩, fun kk hk => ?_⟩
  obtain ⟨X, Y, e1, e2, ⟨x1, x2, y1, y2⟩, hz, -, -, -, el, -⟩ := h.nums
  rw [el] at hlst
  have hin := hlst.2.1 a b ⟨by show a < X; omega, by show b < Y; omega, h1, h2, h3, h4⟩
  have hkk : b * X + a = kk := by
    rw [e1] at hk
    have : ((b * X + a : Nat) : Int) = kk := by push_cast; exact hk
    omega
  have hin' : m ≤ f.D (b * X + a) := hin
  have hlt : b * X + a < X * Y := LD.row_lt (l := ⟨X, Y, fun _ _ => 0⟩) (by show a < X; omega) (by show b < Y; omega)
  rw [hkk] at hin' hlt
  rcases hp kk (by omega) with q | q
  · omega
  · exact ⟨q.2.1, by omega⟩
theorem near_put {f : FD} {D x y d i t : Int} {k : Nat} {c : Nat → Int} (h : f.Near D x y) (hs : SomeP d i t) : (f.put k d i t c).Near D x y := by
  obtain ⟨hi, hn⟩ := h
  have hw := FD.put_W f k d i t c
  refine ⟨by unfold FD.In at hi ⊢; rw [hw.1, hw.2.1]; exact hi, fun q hq => ?_⟩
  rw [hw.1] at hq
  have h0 := hn q hq
  unfold FD.put
  split
  · rename_i ho
    show 0 ≤ upd f.I k i q ∧ D < upd f.D k d q
    by_cases e : q = k
    · subst e
      rw [upd_at, upd_at]
      refine ⟨hs.2.1, ?_⟩
      rcases ho with ho | ho
      · omega
      · unfold NearP at ho
        omega
    · rw [upd_ne _ _ e, upd_ne _ _ e]
      exact h0
  · exact h0
theorem put_hid {f g : FD} {D x y d i t z : Int} {c : Nat → Int} (h : f.Near D x y) (hd : d ≤ D) (hp : PutV f x y d i t c g z) : z = 0 → g = f := by
  intro hz
  rcases hp with ⟨_, q, _⟩ | ⟨_, _, q, _⟩ | ⟨_, _, _, _, k, hk, _, rfl⟩
  · omega
  · omega
  · have h0 := h.2 k hk
    unfold FD.put
    rw [if_neg]
    intro ho
    rcases ho with ho | ho
    · omega
    · unfold NearP at ho
      omega
theorem lay_hid {f g : FD} {D x y d z : Int} {c : Nat → Int} (h : f.Near D x y) (hd : d ≤ D) (hp : LayV f x y d c g z) : z = 0 → g = f := by
  intro hz
  rcases hp with ⟨_, q, _⟩ | ⟨_, _, q, _⟩ | ⟨_, _, _, _, k, hk, _, rfl⟩
  · omega
  · omega
  · have h0 := h.2 k hk
    unfold FD.lay
    rw [if_neg]
    omega
theorem put_later {f g : FD} {D x y a b d i t : Int} {c : Nat → Int} (h : f.Near D x y) (hp : PutV f a b d i t c g 0) : g.May ∧ g.Near D x y := by
  rcases hp with ⟨_, q, _⟩ | ⟨_, _, q, _⟩ | ⟨hm, _, hs, _, k, hk, _, rfl⟩
  · cases q
  · cases q
  · exact ⟨hm.put hs k c, near_put h hs⟩
theorem FD.May.lens {f : FD} (h : f.May) : (f.nc : Int) ≤ 9223372036854775807 ∧ (f.nd : Int) ≤ 9223372036854775807 ∧ (f.ni : Int) ≤ 9223372036854775807 ∧ (f.nt : Int) ≤ 9223372036854775807 := by
  obtain ⟨X, Y, e1, e2, ⟨x1, x2, y1, y2⟩, hz, h1, h2, h3, -, -⟩ := h.nums
  have : X * Y ≤ 64 * 64 := Nat.mul_le_mul x2 y2
  omega
theorem hid_ok {d : PD} {r : RC} {D e : Int} {b : Bool} (h : HidR d r D b e) : b = true → e = 0 := by
  obtain ⟨m, e0, hl, hd⟩ := h
  intro hb
  rcases hd with ⟨_, q, _⟩ | ⟨_, _, q, _⟩ | ⟨_, _, _, q⟩
  · rw [q] at hb; cases hb
  · rw [q] at hb; cases hb
  · exact q

set_option maxRecDepth 100000 in
set_option maxHeartbeats 32000000 in
theorem pyramidHides_walk (p : FP) (f : FD) (r : RC) (D x y zz ww g1 g2 g3 g4 g5 g6 h1 h2 h3 h4 h5 h6 : Int) (c : Nat → Int) (w : World) (hf : FOk w p f) :
    Calls Try.prog 12 #[.agg #[.int .i64 f.W, .int .i64 f.H, .slice p.ac f.nc p.kc, .slice p.ad f.nd p.kd, .slice p.ai f.ni p.ki, .slice p.a4 f.nt p.kt], .agg #[.int .i64 r.X0, .int .i64 r.Y0, .int .i64 r.X1, .int .i64 r.Y1, .int .i64 D], .int .i64 x, .int .i64 y, .agg #[.int .i64 g1, .int .i64 g2, .int .i64 g3, .int .i64 g4, .int .i64 g5, .int .i64 g6], .agg #[.int .u8 (c 0), .int .u8 (c 1), .int .u8 (c 2), .int .u8 (c 3)], .int .i64 zz, .int .i64 ww, .agg #[.int .i64 h1, .int .i64 h2, .int .i64 h3, .int .i64 h4, .int .i64 h5, .int .i64 h6]] w fun e w' => e = .returned (.bool true) ∧ Below w.heap.size w w' := by
  have B9 := Lib.hid (show HasBlk (((((w.alloc (.cells #[.int .i64 f.W, .int .i64 f.H, .slice p.ac f.nc p.kc, .slice p.ad f.nd p.kd, .slice p.ai f.ni p.ki, .slice p.a4 f.nt p.kt] 29)).alloc (.cells #[.int .i64 r.X0, .int .i64 r.Y0, .int .i64 r.X1, .int .i64 r.Y1, .int .i64 D] 55)).alloc (.cells #[.int .i64 g1, .int .i64 g2, .int .i64 g3, .int .i64 g4, .int .i64 g5, .int .i64 g6] 25)).alloc (.cells #[.int .u8 (c 0), .int .u8 (c 1), .int .u8 (c 2), .int .u8 (c 3)] 23)).alloc (.cells #[.int .i64 h1, .int .i64 h2, .int .i64 h3, .int .i64 h4, .int .i64 h5, .int .i64 h6] 25)) w.heap.size 29 #[.int .i64 f.W, .int .i64 f.H, .slice p.ac f.nc p.kc, .slice p.ad f.nd p.kd, .slice p.ai f.ni p.ki, .slice p.a4 f.nt p.kt] by simpa using ((((hasBlk_new w 29 #[.int .i64 f.W, .int .i64 f.H, .slice p.ac f.nc p.kc, .slice p.ad f.nd p.kd, .slice p.ai f.ni p.ki, .slice p.a4 f.nt p.kt]).alloc (.cells #[.int .i64 r.X0, .int .i64 r.Y0, .int .i64 r.X1, .int .i64 r.Y1, .int .i64 D] 55)).alloc (.cells #[.int .i64 g1, .int .i64 g2, .int .i64 g3, .int .i64 g4, .int .i64 g5, .int .i64 g6] 25)).alloc (.cells #[.int .u8 (c 0), .int .u8 (c 1), .int .u8 (c 2), .int .u8 (c 3)] 23)).alloc (.cells #[.int .i64 h1, .int .i64 h2, .int .i64 h3, .int .i64 h4, .int .i64 h5, .int .i64 h6] 25))
  have B10 := Lib.hid (show HasBlk (((((w.alloc (.cells #[.int .i64 f.W, .int .i64 f.H, .slice p.ac f.nc p.kc, .slice p.ad f.nd p.kd, .slice p.ai f.ni p.ki, .slice p.a4 f.nt p.kt] 29)).alloc (.cells #[.int .i64 r.X0, .int .i64 r.Y0, .int .i64 r.X1, .int .i64 r.Y1, .int .i64 D] 55)).alloc (.cells #[.int .i64 g1, .int .i64 g2, .int .i64 g3, .int .i64 g4, .int .i64 g5, .int .i64 g6] 25)).alloc (.cells #[.int .u8 (c 0), .int .u8 (c 1), .int .u8 (c 2), .int .u8 (c 3)] 23)).alloc (.cells #[.int .i64 h1, .int .i64 h2, .int .i64 h3, .int .i64 h4, .int .i64 h5, .int .i64 h6] 25)) (w.heap.size + 1) 55 #[.int .i64 r.X0, .int .i64 r.Y0, .int .i64 r.X1, .int .i64 r.Y1, .int .i64 D] by simpa using (((hasBlk_new (w.alloc (.cells #[.int .i64 f.W, .int .i64 f.H, .slice p.ac f.nc p.kc, .slice p.ad f.nd p.kd, .slice p.ai f.ni p.ki, .slice p.a4 f.nt p.kt] 29)) 55 #[.int .i64 r.X0, .int .i64 r.Y0, .int .i64 r.X1, .int .i64 r.Y1, .int .i64 D]).alloc (.cells #[.int .i64 g1, .int .i64 g2, .int .i64 g3, .int .i64 g4, .int .i64 g5, .int .i64 g6] 25)).alloc (.cells #[.int .u8 (c 0), .int .u8 (c 1), .int .u8 (c 2), .int .u8 (c 3)] 23)).alloc (.cells #[.int .i64 h1, .int .i64 h2, .int .i64 h3, .int .i64 h4, .int .i64 h5, .int .i64 h6] 25))
  have B13 := Lib.hid (show HasBlk (((((w.alloc (.cells #[.int .i64 f.W, .int .i64 f.H, .slice p.ac f.nc p.kc, .slice p.ad f.nd p.kd, .slice p.ai f.ni p.ki, .slice p.a4 f.nt p.kt] 29)).alloc (.cells #[.int .i64 r.X0, .int .i64 r.Y0, .int .i64 r.X1, .int .i64 r.Y1, .int .i64 D] 55)).alloc (.cells #[.int .i64 g1, .int .i64 g2, .int .i64 g3, .int .i64 g4, .int .i64 g5, .int .i64 g6] 25)).alloc (.cells #[.int .u8 (c 0), .int .u8 (c 1), .int .u8 (c 2), .int .u8 (c 3)] 23)).alloc (.cells #[.int .i64 h1, .int .i64 h2, .int .i64 h3, .int .i64 h4, .int .i64 h5, .int .i64 h6] 25)) (w.heap.size + 1 + 1) 25 #[.int .i64 g1, .int .i64 g2, .int .i64 g3, .int .i64 g4, .int .i64 g5, .int .i64 g6] by simpa using ((hasBlk_new ((w.alloc (.cells #[.int .i64 f.W, .int .i64 f.H, .slice p.ac f.nc p.kc, .slice p.ad f.nd p.kd, .slice p.ai f.ni p.ki, .slice p.a4 f.nt p.kt] 29)).alloc (.cells #[.int .i64 r.X0, .int .i64 r.Y0, .int .i64 r.X1, .int .i64 r.Y1, .int .i64 D] 55)) 25 #[.int .i64 g1, .int .i64 g2, .int .i64 g3, .int .i64 g4, .int .i64 g5, .int .i64 g6]).alloc (.cells #[.int .u8 (c 0), .int .u8 (c 1), .int .u8 (c 2), .int .u8 (c 3)] 23)).alloc (.cells #[.int .i64 h1, .int .i64 h2, .int .i64 h3, .int .i64 h4, .int .i64 h5, .int .i64 h6] 25))
  have B14 := Lib.hid (show HasBlk (((((w.alloc (.cells #[.int .i64 f.W, .int .i64 f.H, .slice p.ac f.nc p.kc, .slice p.ad f.nd p.kd, .slice p.ai f.ni p.ki, .slice p.a4 f.nt p.kt] 29)).alloc (.cells #[.int .i64 r.X0, .int .i64 r.Y0, .int .i64 r.X1, .int .i64 r.Y1, .int .i64 D] 55)).alloc (.cells #[.int .i64 g1, .int .i64 g2, .int .i64 g3, .int .i64 g4, .int .i64 g5, .int .i64 g6] 25)).alloc (.cells #[.int .u8 (c 0), .int .u8 (c 1), .int .u8 (c 2), .int .u8 (c 3)] 23)).alloc (.cells #[.int .i64 h1, .int .i64 h2, .int .i64 h3, .int .i64 h4, .int .i64 h5, .int .i64 h6] 25)) (w.heap.size + 1 + 1 + 1) 23 #[.int .u8 (c 0), .int .u8 (c 1), .int .u8 (c 2), .int .u8 (c 3)] by simpa using (hasBlk_new (((w.alloc (.cells #[.int .i64 f.W, .int .i64 f.H, .slice p.ac f.nc p.kc, .slice p.ad f.nd p.kd, .slice p.ai f.ni p.ki, .slice p.a4 f.nt p.kt] 29)).alloc (.cells #[.int .i64 r.X0, .int .i64 r.Y0, .int .i64 r.X1, .int .i64 r.Y1, .int .i64 D] 55)).alloc (.cells #[.int .i64 g1, .int .i64 g2, .int .i64 g3, .int .i64 g4, .int .i64 g5, .int .i64 g6] 25)) 23 #[.int .u8 (c 0), .int .u8 (c 1), .int .u8 (c 2), .int .u8 (c 3)]).alloc (.cells #[.int .i64 h1, .int .i64 h2, .int .i64 h3, .int .i64 h4, .int .i64 h5, .int .i64 h6] 25))
  have B17 := Lib.hid (show HasBlk (((((w.alloc (.cells #[.int .i64 f.W, .int .i64 f.H, .slice p.ac f.nc p.kc, .slice p.ad f.nd p.kd, .slice p.ai f.ni p.ki, .slice p.a4 f.nt p.kt] 29)).alloc (.cells #[.int .i64 r.X0, .int .i64 r.Y0, .int .i64 r.X1, .int .i64 r.Y1, .int .i64 D] 55)).alloc (.cells #[.int .i64 g1, .int .i64 g2, .int .i64 g3, .int .i64 g4, .int .i64 g5, .int .i64 g6] 25)).alloc (.cells #[.int .u8 (c 0), .int .u8 (c 1), .int .u8 (c 2), .int .u8 (c 3)] 23)).alloc (.cells #[.int .i64 h1, .int .i64 h2, .int .i64 h3, .int .i64 h4, .int .i64 h5, .int .i64 h6] 25)) (w.heap.size + 1 + 1 + 1 + 1) 25 #[.int .i64 h1, .int .i64 h2, .int .i64 h3, .int .i64 h4, .int .i64 h5, .int .i64 h6] by simpa using hasBlk_new ((((w.alloc (.cells #[.int .i64 f.W, .int .i64 f.H, .slice p.ac f.nc p.kc, .slice p.ad f.nd p.kd, .slice p.ai f.ni p.ki, .slice p.a4 f.nt p.kt] 29)).alloc (.cells #[.int .i64 r.X0, .int .i64 r.Y0, .int .i64 r.X1, .int .i64 r.Y1, .int .i64 D] 55)).alloc (.cells #[.int .i64 g1, .int .i64 g2, .int .i64 g3, .int .i64 g4, .int .i64 g5, .int .i64 g6] 25)).alloc (.cells #[.int .u8 (c 0), .int .u8 (c 1), .int .u8 (c 2), .int .u8 (c 3)] 23)) 25 #[.int .i64 h1, .int .i64 h2, .int .i64 h3, .int .i64 h4, .int .i64 h5, .int .i64 h6])
  have HB := Lib.hid (show Below w.heap.size w (((((w.alloc (.cells #[.int .i64 f.W, .int .i64 f.H, .slice p.ac f.nc p.kc, .slice p.ad f.nd p.kd, .slice p.ai f.ni p.ki, .slice p.a4 f.nt p.kt] 29)).alloc (.cells #[.int .i64 r.X0, .int .i64 r.Y0, .int .i64 r.X1, .int .i64 r.Y1, .int .i64 D] 55)).alloc (.cells #[.int .i64 g1, .int .i64 g2, .int .i64 g3, .int .i64 g4, .int .i64 g5, .int .i64 g6] 25)).alloc (.cells #[.int .u8 (c 0), .int .u8 (c 1), .int .u8 (c 2), .int .u8 (c 3)] 23)).alloc (.cells #[.int .i64 h1, .int .i64 h2, .int .i64 h3, .int .i64 h4, .int .i64 h5, .int .i64 h6] 25)) by
    repeat' (first | exact Below.refl _ _ | refine Below.alloc ?_ (by first | omega | (simp; done) | (simp; omega)) _))
  have OF := Lib.hid (hf.below HB.out)
  have hf0 := Lib.hid hf
  clear hf
  go_enter Try.func12, Try.ntmps12
  go_upto_region 1 with fail
  generalize (((((w.alloc (.cells #[.int .i64 f.W, .int .i64 f.H, .slice p.ac f.nc p.kc, .slice p.ad f.nd p.kd, .slice p.ai f.ni p.ki, .slice p.a4 f.nt p.kt] 29)).alloc (.cells #[.int .i64 r.X0, .int .i64 r.Y0, .int .i64 r.X1, .int .i64 r.Y1, .int .i64 D] 55)).alloc (.cells #[.int .i64 g1, .int .i64 g2, .int .i64 g3, .int .i64 g4, .int .i64 g5, .int .i64 g6] 25)).alloc (.cells #[.int .u8 (c 0), .int .u8 (c 1), .int .u8 (c 2), .int .u8 (c 3)] 23)).alloc (.cells #[.int .i64 h1, .int .i64 h2, .int .i64 h3, .int .i64 h4, .int .i64 h5, .int .i64 h6] 25)) = v0 at *
  have KX := Lib.hid (alive9_any v0)
  go_wp2_with fail
  refine KX.out.mono ?_
  rintro e v1 ⟨rfl, bel⟩
  clear KX
  have bmv := bel
  have B9' := Lib.hid (B9.out.below bmv)
  have B10' := Lib.hid (B10.out.below bmv)
  have B13' := Lib.hid (B13.out.below bmv)
  have B14' := Lib.hid (B14.out.below bmv)
  have B17' := Lib.hid (B17.out.below bmv)
  have OF' := Lib.hid (OF.out.below bmv)
  have HB' := Lib.hid (HB.out.trans (bmv.mono HB.out.size))
  clear bmv B9 B10 B13 B14 B17 OF HB
  have B9 := Lib.hid B9'.out
  have B10 := Lib.hid B10'.out
  have B13 := Lib.hid B13'.out
  have B14 := Lib.hid B14'.out
  have B17 := Lib.hid B17'.out
  have OF := Lib.hid OF'.out
  have HB := Lib.hid HB'.out
  clear B9' B10' B13' B14' B17' OF' HB'
  clear bel
  have b9_0 := B9.out.cell 0
  have b9_1 := B9.out.cell 1
  have b9_2 := B9.out.cell 2
  have b9_3 := B9.out.cell 3
  have b9_4 := B9.out.cell 4
  have b9_5 := B9.out.cell 5
  have b9_z := B9.out.lt
  simp at b9_0 b9_1 b9_2 b9_3 b9_4 b9_5
  have KX := Lib.hid (great_any p f v1)
  go_wp2_with fail
  refine KX.out.mono ?_
  rintro e v2 ⟨⟨b, rfl, hb⟩, bel⟩
  clear KX hb
  clear b9_0 b9_1 b9_2 b9_3 b9_4 b9_5 b9_z
  have bmv := bel
  have B9' := Lib.hid (B9.out.below bmv)
  have B10' := Lib.hid (B10.out.below bmv)
  have B13' := Lib.hid (B13.out.below bmv)
  have B14' := Lib.hid (B14.out.below bmv)
  have B17' := Lib.hid (B17.out.below bmv)
  have OF' := Lib.hid (OF.out.below bmv)
  have HB' := Lib.hid (HB.out.trans (bmv.mono HB.out.size))
  clear bmv B9 B10 B13 B14 B17 OF HB
  have B9 := Lib.hid B9'.out
  have B10 := Lib.hid B10'.out
  have B13 := Lib.hid B13'.out
  have B14 := Lib.hid B14'.out
  have B17 := Lib.hid B17'.out
  have OF := Lib.hid OF'.out
  have HB := Lib.hid HB'.out
  clear B9' B10' B13' B14' B17' OF' HB'
  clear bel
  cases b
  rotate_left
  · go_wp2
    go_ret
    exact ⟨rfl, HB.out⟩
  obtain ⟨X0, hX0⟩ : ∃ z, r.X0 = z := ⟨_, rfl⟩
  obtain ⟨Y0, hY0⟩ : ∃ z, r.Y0 = z := ⟨_, rfl⟩
  obtain ⟨X1, hX1⟩ : ∃ z, r.X1 = z := ⟨_, rfl⟩
  obtain ⟨Y1, hY1⟩ : ∃ z, r.Y1 = z := ⟨_, rfl⟩
  have HR := Lib.hid (And.intro hX0 (And.intro hY0 (And.intro hX1 hY1)))
  rw [hX0, hY0, hX1, hY1] at B10
  clear hX0 hY0 hX1 hY1
  have b10_0 := B10.out.cell 0
  have b10_1 := B10.out.cell 1
  have b10_2 := B10.out.cell 2
  have b10_3 := B10.out.cell 3
  have b10_4 := B10.out.cell 4
  have b10_z := B10.out.lt
  simp at b10_0 b10_1 b10_2 b10_3 b10_4
  have b13_0 := B13.out.cell 0
  have b13_1 := B13.out.cell 1
  have b13_2 := B13.out.cell 2
  have b13_3 := B13.out.cell 3
  have b13_4 := B13.out.cell 4
  have b13_5 := B13.out.cell 5
  have b13_z := B13.out.lt
  simp at b13_0 b13_1 b13_2 b13_3 b13_4 b13_5
  by_cases u0 : x < X0
  · have d0 : decide (x < X0) = true := decide_eq_true u0
    go_wp2
    go_ret
    exact ⟨rfl, HB.out⟩
  have d0 : decide (x < X0) = false := decide_eq_false u0
  by_cases u1 : X1 < x
  · have d1 : decide (X1 < x) = true := decide_eq_true u1
    go_wp2
    go_ret
    exact ⟨rfl, HB.out⟩
  have d1 : decide (X1 < x) = false := decide_eq_false u1
  by_cases u2 : y < Y0
  · have d2 : decide (y < Y0) = true := decide_eq_true u2
    go_wp2
    go_ret
    exact ⟨rfl, HB.out⟩
  have d2 : decide (y < Y0) = false := decide_eq_false u2
  by_cases u3 : Y1 < y
  · have d3 : decide (Y1 < y) = true := decide_eq_true u3
    go_wp2
    go_ret
    exact ⟨rfl, HB.out⟩
  have d3 : decide (Y1 < y) = false := decide_eq_false u3
  by_cases u4 : D < g1
  · have d4 : decide (D < g1) = true := decide_eq_true u4
    go_wp2
    go_ret
    exact ⟨rfl, HB.out⟩
  have d4 : decide (D < g1) = false := decide_eq_false u4
  have IN := Lib.hid (show r.X0 ≤ x ∧ x ≤ r.X1 ∧ r.Y0 ≤ y ∧ y ≤ r.Y1 ∧ g1 ≤ D by rw [HR.out.1, HR.out.2.1, HR.out.2.2.1, HR.out.2.2.2]; omega)
  clear u0 u1 u2 u3 u4
  have b9_0 := B9.out.cell 0
  have b9_1 := B9.out.cell 1
  have b9_2 := B9.out.cell 2
  have b9_3 := B9.out.cell 3
  have b9_4 := B9.out.cell 4
  have b9_5 := B9.out.cell 5
  have b9_z := B9.out.lt
  simp at b9_0 b9_1 b9_2 b9_3 b9_4 b9_5
  have KX := Lib.hid (pbuild_any p f v2 OF.out)
  go_wp2_with fail
  refine KX.out.mono ?_
  rintro e v3 ⟨hbr, bel⟩
  obtain ⟨p9, d9, c1, rfl, hown, hv⟩ := hbr.v
  have O9 := Lib.hid hown.ok
  have V9 := Lib.hid hv
  clear KX hbr hown hv d0 d1 d2 d3 d4
  clear b9_0 b9_1 b9_2 b9_3 b9_4 b9_5 b9_z
  clear b10_0 b10_1 b10_2 b10_3 b10_4 b10_z
  clear b13_0 b13_1 b13_2 b13_3 b13_4 b13_5 b13_z
  have bmv := bel
  have B9' := Lib.hid (B9.out.below bmv)
  have B10' := Lib.hid (B10.out.below bmv)
  have B13' := Lib.hid (B13.out.below bmv)
  have B14' := Lib.hid (B14.out.below bmv)
  have B17' := Lib.hid (B17.out.below bmv)
  have OF' := Lib.hid (OF.out.below bmv)
  have HB' := Lib.hid (HB.out.trans (bmv.mono HB.out.size))
  clear bmv B9 B10 B13 B14 B17 OF HB
  have B9 := Lib.hid B9'.out
  have B10 := Lib.hid B10'.out
  have B13 := Lib.hid B13'.out
  have B14 := Lib.hid B14'.out
  have B17 := Lib.hid B17'.out
  have OF := Lib.hid OF'.out
  have HB := Lib.hid HB'.out
  clear B9' B10' B13' B14' B17' OF' HB'
  clear bel
  have b10_0 := B10.out.cell 0
  have b10_1 := B10.out.cell 1
  have b10_2 := B10.out.cell 2
  have b10_3 := B10.out.cell 3
  have b10_4 := B10.out.cell 4
  have b10_z := B10.out.lt
  simp at b10_0 b10_1 b10_2 b10_3 b10_4
  have hk := phid_any d9 p9 r D V9.out.Sm (v3.alloc (.cells #[.slice p9.A d9.n p9.c] 51)) (O9.out.below ((Below.refl v3.heap.size v3).alloc (Nat.le_refl _) (.cells #[.slice p9.A d9.n p9.c] 51)))
  rw [HR.out.1, HR.out.2.1, HR.out.2.2.1, HR.out.2.2.2] at hk
  have KX := Lib.hid hk
  clear hk
  go_wp2_with fail
  refine KX.out.mono ?_
  rintro e v4 ⟨⟨bb, e1, rfl, hl⟩, bel⟩
  have HH := Lib.hid hl
  have BP := Lib.hid ((hasBlk_new v3 51 #[.slice p9.A d9.n p9.c]).below bel)
  have bA := ((Below.refl v3.heap.size v3).alloc (Nat.le_refl _) (.cells #[.slice p9.A d9.n p9.c] 51)).trans (bel.mono (by simp))
  obtain ⟨x20, hx20⟩ : ∃ x20, x20 = v3.heap.size := ⟨_, rfl⟩
  rw [← hx20] at BP ⊢
  clear KX hl hx20 bel
  clear b10_0 b10_1 b10_2 b10_3 b10_4 b10_z
  have bmv := bA
  have B9' := Lib.hid (B9.out.below bmv)
  have B10' := Lib.hid (B10.out.below bmv)
  have B13' := Lib.hid (B13.out.below bmv)
  have B14' := Lib.hid (B14.out.below bmv)
  have B17' := Lib.hid (B17.out.below bmv)
  have OF' := Lib.hid (OF.out.below bmv)
  have O9' := Lib.hid (O9.out.below bmv)
  have HB' := Lib.hid (HB.out.trans (bmv.mono HB.out.size))
  clear bmv B9 B10 B13 B14 B17 OF O9 HB
  have B9 := Lib.hid B9'.out
  have B10 := Lib.hid B10'.out
  have B13 := Lib.hid B13'.out
  have B14 := Lib.hid B14'.out
  have B17 := Lib.hid B17'.out
  have OF := Lib.hid OF'.out
  have O9 := Lib.hid O9'.out
  have HB := Lib.hid HB'.out
  clear B9' B10' B13' B14' B17' OF' O9' HB'
  clear bA
  cases bb
  · have hc9 : (c1 != 0) = true ∨ (c1 != 0) = false := by cases (c1 != 0) <;> simp
    have he9 : ((e1 != 0) = true ∧ (e1 == 0) = false) ∨ ((e1 != 0) = false ∧ (e1 == 0) = true) := by
      by_cases q : e1 = 0
      · exact .inr ⟨by simp [q], by simp [q]⟩
      · exact .inl ⟨by simpa using q, by simpa using q⟩
    rcases hc9 with q1 | q1 <;> rcases he9 with ⟨q2, q3⟩ | ⟨q2, q3⟩
    all_goals (
      go_wp2
      go_ret
      exact ⟨rfl, HB.out⟩)
  obtain rfl := hid_ok HH.out rfl
  by_cases hc1 : c1 = 0
  rotate_left
  · have q1 : (c1 != 0) = true := by simpa using hc1
    clear hc1
    go_wp2
    go_ret
    exact ⟨rfl, HB.out⟩
  subst hc1
  obtain ⟨hm, kt, ht, hd9⟩ : f.May ∧ ∃ k, f.ld.Top k ∧ d9 = f.ld.pd k := by
    rcases V9.out with ⟨_, _, q⟩ | ⟨q, _, k, q2, q3⟩
    · cases q
    · exact ⟨q, k, q2, q3⟩
  have HM := Lib.hid hm
  have HN := Lib.hid (show f.Near D x y by
    have h := HH.out
    rw [hd9] at h
    exact hid_near hm ht h IN.out.1 IN.out.2.1 IN.out.2.2.1 IN.out.2.2.2.1)
  have HC := Lib.hid (show chkP d9 = 0 by rw [hd9]; exact chkP_yes (pd_may hm ht))
  clear hm ht hd9
  have b9_0 := B9.out.cell 0
  have b9_1 := B9.out.cell 1
  have b9_2 := B9.out.cell 2
  have b9_3 := B9.out.cell 3
  have b9_4 := B9.out.cell 4
  have b9_5 := B9.out.cell 5
  have b9_z := B9.out.lt
  simp at b9_0 b9_1 b9_2 b9_3 b9_4 b9_5
  have b17_0 := B17.out.cell 0
  have b17_1 := B17.out.cell 1
  have b17_2 := B17.out.cell 2
  have b17_3 := B17.out.cell 3
  have b17_4 := B17.out.cell 4
  have b17_5 := B17.out.cell 5
  have b17_z := B17.out.lt
  simp at b17_0 b17_1 b17_2 b17_3 b17_4 b17_5
  have b14_0 := B14.out.cell 0
  have b14_1 := B14.out.cell 1
  have b14_2 := B14.out.cell 2
  have b14_3 := B14.out.cell 3
  have b14_z := B14.out.lt
  simp at b14_0 b14_1 b14_2 b14_3
  have KX := Lib.hid (put_any p f zz ww h1 h2 h3 h4 h5 h6 c v4 OF.out)
  go_wp2_with fail
  refine KX.out.mono ?_
  rintro e v5 ⟨⟨p2, f2, e2, rfl, hown, hv⟩, bel⟩
  have O2 := Lib.hid hown.ok
  have V2 := Lib.hid hv
  clear KX hown hv
  clear b9_0 b9_1 b9_2 b9_3 b9_4 b9_5 b9_z
  clear b17_0 b17_1 b17_2 b17_3 b17_4 b17_5 b17_z
  clear b14_0 b14_1 b14_2 b14_3 b14_z
  have bmv := bel
  have B9' := Lib.hid (B9.out.below bmv)
  have B10' := Lib.hid (B10.out.below bmv)
  have B13' := Lib.hid (B13.out.below bmv)
  have B14' := Lib.hid (B14.out.below bmv)
  have B17' := Lib.hid (B17.out.below bmv)
  have OF' := Lib.hid (OF.out.below bmv)
  have O9' := Lib.hid (O9.out.below bmv)
  have BP' := Lib.hid (BP.out.below bmv)
  have HB' := Lib.hid (HB.out.trans (bmv.mono HB.out.size))
  clear bmv B9 B10 B13 B14 B17 OF O9 BP HB
  have B9 := Lib.hid B9'.out
  have B10 := Lib.hid B10'.out
  have B13 := Lib.hid B13'.out
  have B14 := Lib.hid B14'.out
  have B17 := Lib.hid B17'.out
  have OF := Lib.hid OF'.out
  have O9 := Lib.hid O9'.out
  have BP := Lib.hid BP'.out
  have HB := Lib.hid HB'.out
  clear B9' B10' B13' B14' B17' OF' O9' BP' HB'
  clear bel
  have hx20v := Lib.hid BP.out.lt
  have hx5v := Lib.hid B17.out.lt
  go_upto_region 11 with fail
  have BL := Lib.hid (hasBlk_new v5 29 #[.int .i64 f2.W, .int .i64 f2.H, .slice p2.ac f2.nc p2.kc, .slice p2.ad f2.nd p2.kd, .slice p2.ai f2.ni p2.ki, .slice p2.a4 f2.nt p2.kt])
  have OL := Lib.hid (O2.out.below ((Below.refl v5.heap.size v5).alloc (Nat.le_refl _) (.cells #[.int .i64 f2.W, .int .i64 f2.H, .slice p2.ac f2.nc p2.kc, .slice p2.ad f2.nd p2.kd, .slice p2.ai f2.ni p2.ki, .slice p2.a4 f2.nt p2.kt] 29)))
  have bA := (Below.refl v5.heap.size v5).alloc (Nat.le_refl _) (.cells #[.int .i64 f2.W, .int .i64 f2.H, .slice p2.ac f2.nc p2.kc, .slice p2.ad f2.nd p2.kd, .slice p2.ai f2.ni p2.ki, .slice p2.a4 f2.nt p2.kt] 29)
  have O9v := Lib.hid O9.out
  have B9v := Lib.hid bA
  have bmv := bA
  have B9' := Lib.hid (B9.out.below bmv)
  have B10' := Lib.hid (B10.out.below bmv)
  have B13' := Lib.hid (B13.out.below bmv)
  have B14' := Lib.hid (B14.out.below bmv)
  have B17' := Lib.hid (B17.out.below bmv)
  have OF' := Lib.hid (OF.out.below bmv)
  have O9' := Lib.hid (O9.out.below bmv)
  have BP' := Lib.hid (BP.out.below bmv)
  have HB' := Lib.hid (HB.out.trans (bmv.mono HB.out.size))
  clear bmv B9 B10 B13 B14 B17 OF O9 BP HB
  have B9 := Lib.hid B9'.out
  have B10 := Lib.hid B10'.out
  have B13 := Lib.hid B13'.out
  have B14 := Lib.hid B14'.out
  have B17 := Lib.hid B17'.out
  have OF := Lib.hid OF'.out
  have O9 := Lib.hid O9'.out
  have BP := Lib.hid BP'.out
  have HB := Lib.hid HB'.out
  clear B9' B10' B13' B14' B17' OF' O9' BP' HB'
  clear bA O2
  have hx20 : x20 < v5.heap.size := hx20v.out
  have hx5 : (w.heap.size + 1 + 1 + 1 + 1) < v5.heap.size := hx5v.out
  obtain ⟨x24, hx24⟩ : ∃ x24, x24 = v5.heap.size := ⟨_, rfl⟩
  rw [← hx24] at BL B9v hx20 hx5 ⊢
  have HX24 := Lib.hid hx24
  clear hx24 hx20v hx5v
  generalize v5.alloc (.cells #[.int .i64 f2.W, .int .i64 f2.H, .slice p2.ac f2.nc p2.kc, .slice p2.ad f2.nd p2.kd, .slice p2.ai f2.ni p2.ki, .slice p2.a4 f2.nt p2.kt] 29) = v6 at *
  by_cases he2 : e2 = 0
  · subst he2
    have HL := Lib.hid (put_later HN.out V2.out)
    clear O9v B9v hx20 hx5
    have bl_0 := BL.out.cell 0
    have bl_1 := BL.out.cell 1
    have bl_2 := BL.out.cell 2
    have bl_3 := BL.out.cell 3
    have bl_4 := BL.out.cell 4
    have bl_5 := BL.out.cell 5
    have bl_z := BL.out.lt
    simp at bl_0 bl_1 bl_2 bl_3 bl_4 bl_5
    have b13_0 := B13.out.cell 0
    have b13_1 := B13.out.cell 1
    have b13_2 := B13.out.cell 2
    have b13_3 := B13.out.cell 3
    have b13_4 := B13.out.cell 4
    have b13_5 := B13.out.cell 5
    have b13_z := B13.out.lt
    simp at b13_0 b13_1 b13_2 b13_3 b13_4 b13_5
    have b14_0 := B14.out.cell 0
    have b14_1 := B14.out.cell 1
    have b14_2 := B14.out.cell 2
    have b14_3 := B14.out.cell 3
    have b14_z := B14.out.lt
    simp at b14_0 b14_1 b14_2 b14_3
    have KX := Lib.hid (put_any p2 f2 x y g1 g2 g3 g4 g5 g6 c v6 OL.out)
    go_wp2_with fail
    refine KX.out.mono ?_
    rintro e y1 ⟨⟨p3, f3, e3, rfl, hown, hv⟩, bel⟩
    have O3 := Lib.hid hown.ok
    have V3 := Lib.hid (put_hid HL.out.2 IN.out.2.2.2.2 hv)
    clear KX hown hv
    clear bl_0 bl_1 bl_2 bl_3 bl_4 bl_5 bl_z
    clear b13_0 b13_1 b13_2 b13_3 b13_4 b13_5 b13_z
    clear b14_0 b14_1 b14_2 b14_3 b14_z
    have bmv := bel
    have B9' := Lib.hid (B9.out.below bmv)
    have B10' := Lib.hid (B10.out.below bmv)
    have B13' := Lib.hid (B13.out.below bmv)
    have B14' := Lib.hid (B14.out.below bmv)
    have B17' := Lib.hid (B17.out.below bmv)
    have OF' := Lib.hid (OF.out.below bmv)
    have O9' := Lib.hid (O9.out.below bmv)
    have BP' := Lib.hid (BP.out.below bmv)
    have BL' := Lib.hid (BL.out.below bmv)
    have OL' := Lib.hid (OL.out.below bmv)
    have HB' := Lib.hid (HB.out.trans (bmv.mono HB.out.size))
    clear bmv B9 B10 B13 B14 B17 OF O9 BP BL OL HB
    have B9 := Lib.hid B9'.out
    have B10 := Lib.hid B10'.out
    have B13 := Lib.hid B13'.out
    have B14 := Lib.hid B14'.out
    have B17 := Lib.hid B17'.out
    have OF := Lib.hid OF'.out
    have O9 := Lib.hid O9'.out
    have BP := Lib.hid BP'.out
    have BL := Lib.hid BL'.out
    have OL := Lib.hid OL'.out
    have HB := Lib.hid HB'.out
    clear B9' B10' B13' B14' B17' OF' O9' BP' BL' OL' HB'
    clear bel
    have bl_0 := BL.out.cell 0
    have bl_1 := BL.out.cell 1
    have bl_2 := BL.out.cell 2
    have bl_3 := BL.out.cell 3
    have bl_4 := BL.out.cell 4
    have bl_5 := BL.out.cell 5
    have bl_z := BL.out.lt
    simp at bl_0 bl_1 bl_2 bl_3 bl_4 bl_5
    have b13_0 := B13.out.cell 0
    have b13_1 := B13.out.cell 1
    have b13_2 := B13.out.cell 2
    have b13_3 := B13.out.cell 3
    have b13_4 := B13.out.cell 4
    have b13_5 := B13.out.cell 5
    have b13_z := B13.out.lt
    simp at b13_0 b13_1 b13_2 b13_3 b13_4 b13_5
    have b14_0 := B14.out.cell 0
    have b14_1 := B14.out.cell 1
    have b14_2 := B14.out.cell 2
    have b14_3 := B14.out.cell 3
    have b14_z := B14.out.lt
    simp at b14_0 b14_1 b14_2 b14_3
    have KX := Lib.hid (lay_frame p2 f2 x y g1 c (y1.alloc (.cells #[.int .i64 f3.W, .int .i64 f3.H, .slice p3.ac f3.nc p3.kc, .slice p3.ad f3.nd p3.kd, .slice p3.ai f3.ni p3.ki, .slice p3.a4 f3.nt p3.kt] 29)) (OL.out.below ((Below.refl y1.heap.size y1).alloc (Nat.le_refl _) (.cells #[.int .i64 f3.W, .int .i64 f3.H, .slice p3.ac f3.nc p3.kc, .slice p3.ad f3.nd p3.kd, .slice p3.ai f3.ni p3.ki, .slice p3.a4 f3.nt p3.kt] 29))))
    go_wp2_with fail
    refine KX.out.mono ?_
    rintro e y2 ⟨⟨p4, f4, e4, rfl, hown, hv⟩, bel⟩
    have O4 := Lib.hid hown.ok
    have V4 := Lib.hid (lay_hid HL.out.2 IN.out.2.2.2.2 hv)
    have BA := Lib.hid ((hasBlk_new y1 29 #[.int .i64 f3.W, .int .i64 f3.H, .slice p3.ac f3.nc p3.kc, .slice p3.ad f3.nd p3.kd, .slice p3.ai f3.ni p3.ki, .slice p3.a4 f3.nt p3.kt]).below bel)
    have bA := ((Below.refl y1.heap.size y1).alloc (Nat.le_refl _) (.cells #[.int .i64 f3.W, .int .i64 f3.H, .slice p3.ac f3.nc p3.kc, .slice p3.ad f3.nd p3.kd, .slice p3.ai f3.ni p3.ki, .slice p3.a4 f3.nt p3.kt] 29)).trans (bel.mono (by simp))
    have O3n := Lib.hid (O3.out.below bA)
    obtain ⟨x26, hx26⟩ : ∃ x26, x26 = y1.heap.size := ⟨_, rfl⟩
    rw [← hx26] at BA ⊢
    clear KX hown hv hx26 bel O3
    have O3 := Lib.hid O3n.out
    clear O3n
    clear bl_0 bl_1 bl_2 bl_3 bl_4 bl_5 bl_z
    clear b13_0 b13_1 b13_2 b13_3 b13_4 b13_5 b13_z
    clear b14_0 b14_1 b14_2 b14_3 b14_z
    have bmv := bA
    have B9' := Lib.hid (B9.out.below bmv)
    have B10' := Lib.hid (B10.out.below bmv)
    have B13' := Lib.hid (B13.out.below bmv)
    have B14' := Lib.hid (B14.out.below bmv)
    have B17' := Lib.hid (B17.out.below bmv)
    have OF' := Lib.hid (OF.out.below bmv)
    have O9' := Lib.hid (O9.out.below bmv)
    have BP' := Lib.hid (BP.out.below bmv)
    have BL' := Lib.hid (BL.out.below bmv)
    have OL' := Lib.hid (OL.out.below bmv)
    have HB' := Lib.hid (HB.out.trans (bmv.mono HB.out.size))
    clear bmv B9 B10 B13 B14 B17 OF O9 BP BL OL HB
    have B9 := Lib.hid B9'.out
    have B10 := Lib.hid B10'.out
    have B13 := Lib.hid B13'.out
    have B14 := Lib.hid B14'.out
    have B17 := Lib.hid B17'.out
    have OF := Lib.hid OF'.out
    have O9 := Lib.hid O9'.out
    have BP := Lib.hid BP'.out
    have BL := Lib.hid BL'.out
    have OL := Lib.hid OL'.out
    have HB := Lib.hid HB'.out
    clear B9' B10' B13' B14' B17' OF' O9' BP' BL' OL' HB'
    clear bA
    go_upto_region 15 with fail
    have BC := Lib.hid (hasBlk_new y2 29 #[.int .i64 f4.W, .int .i64 f4.H, .slice p4.ac f4.nc p4.kc, .slice p4.ad f4.nd p4.kd, .slice p4.ai f4.ni p4.ki, .slice p4.a4 f4.nt p4.kt])
    have bA := ((Below.refl y2.heap.size y2).alloc (Nat.le_refl _) (.cells #[.int .i64 f4.W, .int .i64 f4.H, .slice p4.ac f4.nc p4.kc, .slice p4.ad f4.nd p4.kd, .slice p4.ai f4.ni p4.ki, .slice p4.a4 f4.nt p4.kt] 29))
    have bmv := bA
    have B9' := Lib.hid (B9.out.below bmv)
    have B10' := Lib.hid (B10.out.below bmv)
    have B13' := Lib.hid (B13.out.below bmv)
    have B14' := Lib.hid (B14.out.below bmv)
    have B17' := Lib.hid (B17.out.below bmv)
    have OF' := Lib.hid (OF.out.below bmv)
    have O9' := Lib.hid (O9.out.below bmv)
    have BP' := Lib.hid (BP.out.below bmv)
    have BL' := Lib.hid (BL.out.below bmv)
    have OL' := Lib.hid (OL.out.below bmv)
    have BA' := Lib.hid (BA.out.below bmv)
    have O3' := Lib.hid (O3.out.below bmv)
    have O4' := Lib.hid (O4.out.below bmv)
    have HB' := Lib.hid (HB.out.trans (bmv.mono HB.out.size))
    clear bmv B9 B10 B13 B14 B17 OF O9 BP BL OL BA O3 O4 HB
    have B9 := Lib.hid B9'.out
    have B10 := Lib.hid B10'.out
    have B13 := Lib.hid B13'.out
    have B14 := Lib.hid B14'.out
    have B17 := Lib.hid B17'.out
    have OF := Lib.hid OF'.out
    have O9 := Lib.hid O9'.out
    have BP := Lib.hid BP'.out
    have BL := Lib.hid BL'.out
    have OL := Lib.hid OL'.out
    have BA := Lib.hid BA'.out
    have O3 := Lib.hid O3'.out
    have O4 := Lib.hid O4'.out
    have HB := Lib.hid HB'.out
    clear B9' B10' B13' B14' B17' OF' O9' BP' BL' OL' BA' O3' O4' HB'
    clear bA
    obtain ⟨x28, hx28⟩ : ∃ x28, x28 = y2.heap.size := ⟨_, rfl⟩
    rw [← hx28] at BC ⊢
    clear hx28
    generalize y2.alloc (.cells #[.int .i64 f4.W, .int .i64 f4.H, .slice p4.ac f4.nc p4.kc, .slice p4.ad f4.nd p4.kd, .slice p4.ai f4.ni p4.ki, .slice p4.a4 f4.nt p4.kt] 29) = y3 at *
    by_cases hz3 : e3 = 0
    · have EBA := Lib.hid (V3.out hz3)
      subst hz3
      have ba_0 := BA.out.cell 0
      have ba_1 := BA.out.cell 1
      have ba_2 := BA.out.cell 2
      have ba_3 := BA.out.cell 3
      have ba_4 := BA.out.cell 4
      have ba_5 := BA.out.cell 5
      have ba_z := BA.out.lt
      simp at ba_0 ba_1 ba_2 ba_3 ba_4 ba_5
      have bl_0 := BL.out.cell 0
      have bl_1 := BL.out.cell 1
      have bl_2 := BL.out.cell 2
      have bl_3 := BL.out.cell 3
      have bl_4 := BL.out.cell 4
      have bl_5 := BL.out.cell 5
      have bl_z := BL.out.lt
      simp at bl_0 bl_1 bl_2 bl_3 bl_4 bl_5
      have KX := Lib.hid (same_any p3 p2 f3 f2 y3 O3.out OL.out (by rw [EBA.out]; exact HL.out.1.lens))
      go_wp2_with fail
      refine KX.out.mono ?_
      rintro e y4 ⟨⟨bs, rfl, hbs⟩, bel⟩
      obtain rfl : bs = true := hbs.2 (by rw [EBA.out]; exact FD.Same.refl _)
      clear KX hbs
      clear ba_0 ba_1 ba_2 ba_3 ba_4 ba_5 ba_z
      clear bl_0 bl_1 bl_2 bl_3 bl_4 bl_5 bl_z
      have bmv := bel
      have B9' := Lib.hid (B9.out.below bmv)
      have B10' := Lib.hid (B10.out.below bmv)
      have B13' := Lib.hid (B13.out.below bmv)
      have B14' := Lib.hid (B14.out.below bmv)
      have B17' := Lib.hid (B17.out.below bmv)
      have OF' := Lib.hid (OF.out.below bmv)
      have O9' := Lib.hid (O9.out.below bmv)
      have BP' := Lib.hid (BP.out.below bmv)
      have BL' := Lib.hid (BL.out.below bmv)
      have OL' := Lib.hid (OL.out.below bmv)
      have BA' := Lib.hid (BA.out.below bmv)
      have O3' := Lib.hid (O3.out.below bmv)
      have O4' := Lib.hid (O4.out.below bmv)
      have BC' := Lib.hid (BC.out.below bmv)
      have HB' := Lib.hid (HB.out.trans (bmv.mono HB.out.size))
      clear bmv B9 B10 B13 B14 B17 OF O9 BP BL OL BA O3 O4 BC HB
      have B9 := Lib.hid B9'.out
      have B10 := Lib.hid B10'.out
      have B13 := Lib.hid B13'.out
      have B14 := Lib.hid B14'.out
      have B17 := Lib.hid B17'.out
      have OF := Lib.hid OF'.out
      have O9 := Lib.hid O9'.out
      have BP := Lib.hid BP'.out
      have BL := Lib.hid BL'.out
      have OL := Lib.hid OL'.out
      have BA := Lib.hid BA'.out
      have O3 := Lib.hid O3'.out
      have O4 := Lib.hid O4'.out
      have BC := Lib.hid BC'.out
      have HB := Lib.hid HB'.out
      clear B9' B10' B13' B14' B17' OF' O9' BP' BL' OL' BA' O3' O4' BC' HB'
      clear bel
      by_cases hz4 : e4 = 0
      · have EBC := Lib.hid (V4.out hz4)
        subst hz4
        have bc_0 := BC.out.cell 0
        have bc_1 := BC.out.cell 1
        have bc_2 := BC.out.cell 2
        have bc_3 := BC.out.cell 3
        have bc_4 := BC.out.cell 4
        have bc_5 := BC.out.cell 5
        have bc_z := BC.out.lt
        simp at bc_0 bc_1 bc_2 bc_3 bc_4 bc_5
        have bl_0 := BL.out.cell 0
        have bl_1 := BL.out.cell 1
        have bl_2 := BL.out.cell 2
        have bl_3 := BL.out.cell 3
        have bl_4 := BL.out.cell 4
        have bl_5 := BL.out.cell 5
        have bl_z := BL.out.lt
        simp at bl_0 bl_1 bl_2 bl_3 bl_4 bl_5
        have KX := Lib.hid (same_any p4 p2 f4 f2 y4 O4.out OL.out (by rw [EBC.out]; exact HL.out.1.lens))
        go_wp2_with fail
        refine KX.out.mono ?_
        rintro e y5 ⟨⟨bs, rfl, hbs⟩, bel⟩
        obtain rfl : bs = true := hbs.2 (by rw [EBC.out]; exact FD.Same.refl _)
        clear KX hbs
        clear bc_0 bc_1 bc_2 bc_3 bc_4 bc_5 bc_z
        clear bl_0 bl_1 bl_2 bl_3 bl_4 bl_5 bl_z
        have bmv := bel
        have B9' := Lib.hid (B9.out.below bmv)
        have B10' := Lib.hid (B10.out.below bmv)
        have B13' := Lib.hid (B13.out.below bmv)
        have B14' := Lib.hid (B14.out.below bmv)
        have B17' := Lib.hid (B17.out.below bmv)
        have OF' := Lib.hid (OF.out.below bmv)
        have O9' := Lib.hid (O9.out.below bmv)
        have BP' := Lib.hid (BP.out.below bmv)
        have BL' := Lib.hid (BL.out.below bmv)
        have OL' := Lib.hid (OL.out.below bmv)
        have BA' := Lib.hid (BA.out.below bmv)
        have O3' := Lib.hid (O3.out.below bmv)
        have O4' := Lib.hid (O4.out.below bmv)
        have BC' := Lib.hid (BC.out.below bmv)
        have HB' := Lib.hid (HB.out.trans (bmv.mono HB.out.size))
        clear bmv B9 B10 B13 B14 B17 OF O9 BP BL OL BA O3 O4 BC HB
        have B9 := Lib.hid B9'.out
        have B10 := Lib.hid B10'.out
        have B13 := Lib.hid B13'.out
        have B14 := Lib.hid B14'.out
        have B17 := Lib.hid B17'.out
        have OF := Lib.hid OF'.out
        have O9 := Lib.hid O9'.out
        have BP := Lib.hid BP'.out
        have BL := Lib.hid BL'.out
        have OL := Lib.hid OL'.out
        have BA := Lib.hid BA'.out
        have O3 := Lib.hid O3'.out
        have O4 := Lib.hid O4'.out
        have BC := Lib.hid BC'.out
        have HB := Lib.hid HB'.out
        clear B9' B10' B13' B14' B17' OF' O9' BP' BL' OL' BA' O3' O4' BC' HB'
        clear bel
        have bp_0 := BP.out.cell 0
        have bp_z := BP.out.lt
        simp at bp_0
        have KX := Lib.hid (refcheckp_any d9 p9 V9.out.Sm y5 O9.out)
        go_wp2_with fail
        refine KX.out.mono ?_
        rintro e ye ⟨rfl, bel⟩
        have hc := HC.out
        have HE := Lib.hid (HB.out.trans (bel.mono HB.out.size))
        clear KX bel
        rw [hc]
        go_wp2
        go_ret
        exact ⟨rfl, HE.out⟩
      · have q4 : (e4 != 0) = true := by simpa using hz4
        clear hz4
        have bp_0 := BP.out.cell 0
        have bp_z := BP.out.lt
        simp at bp_0
        have KX := Lib.hid (refcheckp_any d9 p9 V9.out.Sm y4 O9.out)
        go_wp2_with fail
        refine KX.out.mono ?_
        rintro e ye ⟨rfl, bel⟩
        have hc := HC.out
        have HE := Lib.hid (HB.out.trans (bel.mono HB.out.size))
        clear KX bel
        rw [hc]
        go_wp2
        go_ret
        exact ⟨rfl, HE.out⟩
    · have q3 : (e3 != 0) = true := by simpa using hz3
      clear hz3
      by_cases hz4 : e4 = 0
      · have EBC := Lib.hid (V4.out hz4)
        subst hz4
        have bc_0 := BC.out.cell 0
        have bc_1 := BC.out.cell 1
        have bc_2 := BC.out.cell 2
        have bc_3 := BC.out.cell 3
        have bc_4 := BC.out.cell 4
        have bc_5 := BC.out.cell 5
        have bc_z := BC.out.lt
        simp at bc_0 bc_1 bc_2 bc_3 bc_4 bc_5
        have bl_0 := BL.out.cell 0
        have bl_1 := BL.out.cell 1
        have bl_2 := BL.out.cell 2
        have bl_3 := BL.out.cell 3
        have bl_4 := BL.out.cell 4
        have bl_5 := BL.out.cell 5
        have bl_z := BL.out.lt
        simp at bl_0 bl_1 bl_2 bl_3 bl_4 bl_5
        have KX := Lib.hid (same_any p4 p2 f4 f2 y3 O4.out OL.out (by rw [EBC.out]; exact HL.out.1.lens))
        go_wp2_with fail
        refine KX.out.mono ?_
        rintro e y5 ⟨⟨bs, rfl, hbs⟩, bel⟩
        obtain rfl : bs = true := hbs.2 (by rw [EBC.out]; exact FD.Same.refl _)
        clear KX hbs
        clear bc_0 bc_1 bc_2 bc_3 bc_4 bc_5 bc_z
        clear bl_0 bl_1 bl_2 bl_3 bl_4 bl_5 bl_z
        have bmv := bel
        have B9' := Lib.hid (B9.out.below bmv)
        have B10' := Lib.hid (B10.out.below bmv)
        have B13' := Lib.hid (B13.out.below bmv)
        have B14' := Lib.hid (B14.out.below bmv)
        have B17' := Lib.hid (B17.out.below bmv)
        have OF' := Lib.hid (OF.out.below bmv)
        have O9' := Lib.hid (O9.out.below bmv)
        have BP' := Lib.hid (BP.out.below bmv)
        have BL' := Lib.hid (BL.out.below bmv)
        have OL' := Lib.hid (OL.out.below bmv)
        have BA' := Lib.hid (BA.out.below bmv)
        have O3' := Lib.hid (O3.out.below bmv)
        have O4' := Lib.hid (O4.out.below bmv)
        have BC' := Lib.hid (BC.out.below bmv)
        have HB' := Lib.hid (HB.out.trans (bmv.mono HB.out.size))
        clear bmv B9 B10 B13 B14 B17 OF O9 BP BL OL BA O3 O4 BC HB
        have B9 := Lib.hid B9'.out
        have B10 := Lib.hid B10'.out
        have B13 := Lib.hid B13'.out
        have B14 := Lib.hid B14'.out
        have B17 := Lib.hid B17'.out
        have OF := Lib.hid OF'.out
        have O9 := Lib.hid O9'.out
        have BP := Lib.hid BP'.out
        have BL := Lib.hid BL'.out
        have OL := Lib.hid OL'.out
        have BA := Lib.hid BA'.out
        have O3 := Lib.hid O3'.out
        have O4 := Lib.hid O4'.out
        have BC := Lib.hid BC'.out
        have HB := Lib.hid HB'.out
        clear B9' B10' B13' B14' B17' OF' O9' BP' BL' OL' BA' O3' O4' BC' HB'
        clear bel
        have bp_0 := BP.out.cell 0
        have bp_z := BP.out.lt
        simp at bp_0
        have KX := Lib.hid (refcheckp_any d9 p9 V9.out.Sm y5 O9.out)
        go_wp2_with fail
        refine KX.out.mono ?_
        rintro e ye ⟨rfl, bel⟩
        have hc := HC.out
        have HE := Lib.hid (HB.out.trans (bel.mono HB.out.size))
        clear KX bel
        rw [hc]
        go_wp2
        go_ret
        exact ⟨rfl, HE.out⟩
      · have q4 : (e4 != 0) = true := by simpa using hz4
        clear hz4
        have bp_0 := BP.out.cell 0
        have bp_z := BP.out.lt
        simp at bp_0
        have KX := Lib.hid (refcheckp_any d9 p9 V9.out.Sm y3 O9.out)
        go_wp2_with fail
        refine KX.out.mono ?_
        rintro e ye ⟨rfl, bel⟩
        have hc := HC.out
        have HE := Lib.hid (HB.out.trans (bel.mono HB.out.size))
        clear KX bel
        rw [hc]
        go_wp2
        go_ret
        exact ⟨rfl, HE.out⟩
  · have q2 : (e2 != 0) = true := by simpa using he2
    clear he2 OL
    have HL := Lib.hid (And.intro HM.out HN.out)
    have b9_0 := B9.out.cell 0
    have b9_1 := B9.out.cell 1
    have b9_2 := B9.out.cell 2
    have b9_3 := B9.out.cell 3
    have b9_4 := B9.out.cell 4
    have b9_5 := B9.out.cell 5
    have b9_z := B9.out.lt
    simp at b9_0 b9_1 b9_2 b9_3 b9_4 b9_5
    have bl_0 := BL.out.cell 0
    have blf0 := BL.out.frozen 0
    have bl_1 := BL.out.cell 1
    have blf1 := BL.out.frozen 1
    have bl_2 := BL.out.cell 2
    have blf2 := BL.out.frozen 2
    have bl_3 := BL.out.cell 3
    have blf3 := BL.out.frozen 3
    have bl_4 := BL.out.cell 4
    have blf4 := BL.out.frozen 4
    have bl_5 := BL.out.cell 5
    have blf5 := BL.out.frozen 5
    have bl_z := BL.out.lt
    simp at bl_0 bl_1 bl_2 bl_3 bl_4 bl_5
    go_upto_region 13 with fail
    clear b9_0 b9_1 b9_2 b9_3 b9_4 b9_5 b9_z
    clear bl_0 blf0 bl_1 blf1 bl_2 blf2 bl_3 blf3 bl_4 blf4 bl_5 blf5 bl_z
    have BLn := Lib.hid (show HasBlk ((((((v6.setCell ⟨x24, 0, none⟩ (.int .i64 f.W)).setCell ⟨x24, 1, none⟩ (.int .i64 f.H)).setCell ⟨x24, 2, none⟩ (.slice p.ac f.nc p.kc)).setCell ⟨x24, 3, none⟩ (.slice p.ad f.nd p.kd)).setCell ⟨x24, 4, none⟩ (.slice p.ai f.ni p.ki)).setCell ⟨x24, 5, none⟩ (.slice p.a4 f.nt p.kt)) x24 29 #[.int .i64 f.W, .int .i64 f.H, .slice p.ac f.nc p.kc, .slice p.ad f.nd p.kd, .slice p.ai f.ni p.ki, .slice p.a4 f.nt p.kt] by simpa using ((((((((((((BL.out).set 0 (.int .i64 f.W))).set 1 (.int .i64 f.H))).set 2 (.slice p.ac f.nc p.kc))).set 3 (.slice p.ad f.nd p.kd))).set 4 (.slice p.ai f.ni p.ki))).set 5 (.slice p.a4 f.nt p.kt)))
    have B9n := Lib.hid (show HasBlk ((((((v6.setCell ⟨x24, 0, none⟩ (.int .i64 f.W)).setCell ⟨x24, 1, none⟩ (.int .i64 f.H)).setCell ⟨x24, 2, none⟩ (.slice p.ac f.nc p.kc)).setCell ⟨x24, 3, none⟩ (.slice p.ad f.nd p.kd)).setCell ⟨x24, 4, none⟩ (.slice p.ai f.ni p.ki)).setCell ⟨x24, 5, none⟩ (.slice p.a4 f.nt p.kt)) w.heap.size 29 _ from ((((((B9.out.far (p := ⟨x24, 0, none⟩) (by simp; omega) (.int .i64 f.W)).far (p := ⟨x24, 1, none⟩) (by simp; omega) (.int .i64 f.H)).far (p := ⟨x24, 2, none⟩) (by simp; omega) (.slice p.ac f.nc p.kc)).far (p := ⟨x24, 3, none⟩) (by simp; omega) (.slice p.ad f.nd p.kd)).far (p := ⟨x24, 4, none⟩) (by simp; omega) (.slice p.ai f.ni p.ki)).far (p := ⟨x24, 5, none⟩) (by simp; omega) (.slice p.a4 f.nt p.kt)))
    have B10n := Lib.hid (show HasBlk ((((((v6.setCell ⟨x24, 0, none⟩ (.int .i64 f.W)).setCell ⟨x24, 1, none⟩ (.int .i64 f.H)).setCell ⟨x24, 2, none⟩ (.slice p.ac f.nc p.kc)).setCell ⟨x24, 3, none⟩ (.slice p.ad f.nd p.kd)).setCell ⟨x24, 4, none⟩ (.slice p.ai f.ni p.ki)).setCell ⟨x24, 5, none⟩ (.slice p.a4 f.nt p.kt)) (w.heap.size + 1) 55 _ from ((((((B10.out.far (p := ⟨x24, 0, none⟩) (by simp; omega) (.int .i64 f.W)).far (p := ⟨x24, 1, none⟩) (by simp; omega) (.int .i64 f.H)).far (p := ⟨x24, 2, none⟩) (by simp; omega) (.slice p.ac f.nc p.kc)).far (p := ⟨x24, 3, none⟩) (by simp; omega) (.slice p.ad f.nd p.kd)).far (p := ⟨x24, 4, none⟩) (by simp; omega) (.slice p.ai f.ni p.ki)).far (p := ⟨x24, 5, none⟩) (by simp; omega) (.slice p.a4 f.nt p.kt)))
    have B13n := Lib.hid (show HasBlk ((((((v6.setCell ⟨x24, 0, none⟩ (.int .i64 f.W)).setCell ⟨x24, 1, none⟩ (.int .i64 f.H)).setCell ⟨x24, 2, none⟩ (.slice p.ac f.nc p.kc)).setCell ⟨x24, 3, none⟩ (.slice p.ad f.nd p.kd)).setCell ⟨x24, 4, none⟩ (.slice p.ai f.ni p.ki)).setCell ⟨x24, 5, none⟩ (.slice p.a4 f.nt p.kt)) (w.heap.size + 1 + 1) 25 _ from ((((((B13.out.far (p := ⟨x24, 0, none⟩) (by simp; omega) (.int .i64 f.W)).far (p := ⟨x24, 1, none⟩) (by simp; omega) (.int .i64 f.H)).far (p := ⟨x24, 2, none⟩) (by simp; omega) (.slice p.ac f.nc p.kc)).far (p := ⟨x24, 3, none⟩) (by simp; omega) (.slice p.ad f.nd p.kd)).far (p := ⟨x24, 4, none⟩) (by simp; omega) (.slice p.ai f.ni p.ki)).far (p := ⟨x24, 5, none⟩) (by simp; omega) (.slice p.a4 f.nt p.kt)))
    have B14n := Lib.hid (show HasBlk ((((((v6.setCell ⟨x24, 0, none⟩ (.int .i64 f.W)).setCell ⟨x24, 1, none⟩ (.int .i64 f.H)).setCell ⟨x24, 2, none⟩ (.slice p.ac f.nc p.kc)).setCell ⟨x24, 3, none⟩ (.slice p.ad f.nd p.kd)).setCell ⟨x24, 4, none⟩ (.slice p.ai f.ni p.ki)).setCell ⟨x24, 5, none⟩ (.slice p.a4 f.nt p.kt)) (w.heap.size + 1 + 1 + 1) 23 _ from ((((((B14.out.far (p := ⟨x24, 0, none⟩) (by simp; omega) (.int .i64 f.W)).far (p := ⟨x24, 1, none⟩) (by simp; omega) (.int .i64 f.H)).far (p := ⟨x24, 2, none⟩) (by simp; omega) (.slice p.ac f.nc p.kc)).far (p := ⟨x24, 3, none⟩) (by simp; omega) (.slice p.ad f.nd p.kd)).far (p := ⟨x24, 4, none⟩) (by simp; omega) (.slice p.ai f.ni p.ki)).far (p := ⟨x24, 5, none⟩) (by simp; omega) (.slice p.a4 f.nt p.kt)))
    have B17n := Lib.hid (show HasBlk ((((((v6.setCell ⟨x24, 0, none⟩ (.int .i64 f.W)).setCell ⟨x24, 1, none⟩ (.int .i64 f.H)).setCell ⟨x24, 2, none⟩ (.slice p.ac f.nc p.kc)).setCell ⟨x24, 3, none⟩ (.slice p.ad f.nd p.kd)).setCell ⟨x24, 4, none⟩ (.slice p.ai f.ni p.ki)).setCell ⟨x24, 5, none⟩ (.slice p.a4 f.nt p.kt)) (w.heap.size + 1 + 1 + 1 + 1) 25 _ from ((((((B17.out.far (p := ⟨x24, 0, none⟩) (by simp; omega) (.int .i64 f.W)).far (p := ⟨x24, 1, none⟩) (by simp; omega) (.int .i64 f.H)).far (p := ⟨x24, 2, none⟩) (by simp; omega) (.slice p.ac f.nc p.kc)).far (p := ⟨x24, 3, none⟩) (by simp; omega) (.slice p.ad f.nd p.kd)).far (p := ⟨x24, 4, none⟩) (by simp; omega) (.slice p.ai f.ni p.ki)).far (p := ⟨x24, 5, none⟩) (by simp; omega) (.slice p.a4 f.nt p.kt)))
    have BPn := Lib.hid (show HasBlk ((((((v6.setCell ⟨x24, 0, none⟩ (.int .i64 f.W)).setCell ⟨x24, 1, none⟩ (.int .i64 f.H)).setCell ⟨x24, 2, none⟩ (.slice p.ac f.nc p.kc)).setCell ⟨x24, 3, none⟩ (.slice p.ad f.nd p.kd)).setCell ⟨x24, 4, none⟩ (.slice p.ai f.ni p.ki)).setCell ⟨x24, 5, none⟩ (.slice p.a4 f.nt p.kt)) x20 51 _ from ((((((BP.out.far (p := ⟨x24, 0, none⟩) (by simp; omega) (.int .i64 f.W)).far (p := ⟨x24, 1, none⟩) (by simp; omega) (.int .i64 f.H)).far (p := ⟨x24, 2, none⟩) (by simp; omega) (.slice p.ac f.nc p.kc)).far (p := ⟨x24, 3, none⟩) (by simp; omega) (.slice p.ad f.nd p.kd)).far (p := ⟨x24, 4, none⟩) (by simp; omega) (.slice p.ai f.ni p.ki)).far (p := ⟨x24, 5, none⟩) (by simp; omega) (.slice p.a4 f.nt p.kt)))
    have HBn := Lib.hid (show Below w.heap.size w ((((((v6.setCell ⟨x24, 0, none⟩ (.int .i64 f.W)).setCell ⟨x24, 1, none⟩ (.int .i64 f.H)).setCell ⟨x24, 2, none⟩ (.slice p.ac f.nc p.kc)).setCell ⟨x24, 3, none⟩ (.slice p.ad f.nd p.kd)).setCell ⟨x24, 4, none⟩ (.slice p.ai f.ni p.ki)).setCell ⟨x24, 5, none⟩ (.slice p.a4 f.nt p.kt)) from (Below.setCell (p := ⟨x24, 5, none⟩) (Below.setCell (p := ⟨x24, 4, none⟩) (Below.setCell (p := ⟨x24, 3, none⟩) (Below.setCell (p := ⟨x24, 2, none⟩) (Below.setCell (p := ⟨x24, 1, none⟩) (Below.setCell (p := ⟨x24, 0, none⟩) HB.out (by simp; omega) (.int .i64 f.W)) (by simp; omega) (.int .i64 f.H)) (by simp; omega) (.slice p.ac f.nc p.kc)) (by simp; omega) (.slice p.ad f.nd p.kd)) (by simp; omega) (.slice p.ai f.ni p.ki)) (by simp; omega) (.slice p.a4 f.nt p.kt)))
    have BK := Lib.hid (show Below x24 v6 ((((((v6.setCell ⟨x24, 0, none⟩ (.int .i64 f.W)).setCell ⟨x24, 1, none⟩ (.int .i64 f.H)).setCell ⟨x24, 2, none⟩ (.slice p.ac f.nc p.kc)).setCell ⟨x24, 3, none⟩ (.slice p.ad f.nd p.kd)).setCell ⟨x24, 4, none⟩ (.slice p.ai f.ni p.ki)).setCell ⟨x24, 5, none⟩ (.slice p.a4 f.nt p.kt)) from (Below.setCell (p := ⟨x24, 5, none⟩) (Below.setCell (p := ⟨x24, 4, none⟩) (Below.setCell (p := ⟨x24, 3, none⟩) (Below.setCell (p := ⟨x24, 2, none⟩) (Below.setCell (p := ⟨x24, 1, none⟩) (Below.setCell (p := ⟨x24, 0, none⟩) (Below.refl x24 v6) (Nat.le_refl _) (.int .i64 f.W)) (Nat.le_refl _) (.int .i64 f.H)) (Nat.le_refl _) (.slice p.ac f.nc p.kc)) (Nat.le_refl _) (.slice p.ad f.nd p.kd)) (Nat.le_refl _) (.slice p.ai f.ni p.ki)) (Nat.le_refl _) (.slice p.a4 f.nt p.kt)))
    clear BL B9 B10 B13 B14 B17 BP HB
    have BL := Lib.hid BLn.out
    have B9 := Lib.hid B9n.out
    have B10 := Lib.hid B10n.out
    have B13 := Lib.hid B13n.out
    have B14 := Lib.hid B14n.out
    have B17 := Lib.hid B17n.out
    have BP := Lib.hid BPn.out
    have HB := Lib.hid HBn.out
    clear BLn B9n B10n B13n B14n B17n BPn HBn
    have OFn := Lib.hid (hf0.out.below HB.out)
    have O9n := Lib.hid (O9v.out.below (((B9v.out).trans BK.out).mono (Nat.le_of_eq HX24.out.symm)))
    clear OF O9 BK B9v
    have OF := Lib.hid OFn.out
    have O9 := Lib.hid O9n.out
    have OL := Lib.hid OFn.out
    clear OFn O9n
    generalize ((((((v6.setCell ⟨x24, 0, none⟩ (.int .i64 f.W)).setCell ⟨x24, 1, none⟩ (.int .i64 f.H)).setCell ⟨x24, 2, none⟩ (.slice p.ac f.nc p.kc)).setCell ⟨x24, 3, none⟩ (.slice p.ad f.nd p.kd)).setCell ⟨x24, 4, none⟩ (.slice p.ai f.ni p.ki)).setCell ⟨x24, 5, none⟩ (.slice p.a4 f.nt p.kt)) = v7 at *
    have bl_0 := BL.out.cell 0
    have bl_1 := BL.out.cell 1
    have bl_2 := BL.out.cell 2
    have bl_3 := BL.out.cell 3
    have bl_4 := BL.out.cell 4
    have bl_5 := BL.out.cell 5
    have bl_z := BL.out.lt
    simp at bl_0 bl_1 bl_2 bl_3 bl_4 bl_5
    have b13_0 := B13.out.cell 0
    have b13_1 := B13.out.cell 1
    have b13_2 := B13.out.cell 2
    have b13_3 := B13.out.cell 3
    have b13_4 := B13.out.cell 4
    have b13_5 := B13.out.cell 5
    have b13_z := B13.out.lt
    simp at b13_0 b13_1 b13_2 b13_3 b13_4 b13_5
    have b14_0 := B14.out.cell 0
    have b14_1 := B14.out.cell 1
    have b14_2 := B14.out.cell 2
    have b14_3 := B14.out.cell 3
    have b14_z := B14.out.lt
    simp at b14_0 b14_1 b14_2 b14_3
    have KX := Lib.hid (put_any p f x y g1 g2 g3 g4 g5 g6 c v7 OL.out)
    go_wp2_with fail
    refine KX.out.mono ?_
    rintro e y1 ⟨⟨p3, f3, e3, rfl, hown, hv⟩, bel⟩
    have O3 := Lib.hid hown.ok
    have V3 := Lib.hid (put_hid HL.out.2 IN.out.2.2.2.2 hv)
    clear KX hown hv
    clear bl_0 bl_1 bl_2 bl_3 bl_4 bl_5 bl_z
    clear b13_0 b13_1 b13_2 b13_3 b13_4 b13_5 b13_z
    clear b14_0 b14_1 b14_2 b14_3 b14_z
    have bmv := bel
    have B9' := Lib.hid (B9.out.below bmv)
    have B10' := Lib.hid (B10.out.below bmv)
    have B13' := Lib.hid (B13.out.below bmv)
    have B14' := Lib.hid (B14.out.below bmv)
    have B17' := Lib.hid (B17.out.below bmv)
    have OF' := Lib.hid (OF.out.below bmv)
    have O9' := Lib.hid (O9.out.below bmv)
    have BP' := Lib.hid (BP.out.below bmv)
    have BL' := Lib.hid (BL.out.below bmv)
    have OL' := Lib.hid (OL.out.below bmv)
    have HB' := Lib.hid (HB.out.trans (bmv.mono HB.out.size))
    clear bmv B9 B10 B13 B14 B17 OF O9 BP BL OL HB
    have B9 := Lib.hid B9'.out
    have B10 := Lib.hid B10'.out
    have B13 := Lib.hid B13'.out
    have B14 := Lib.hid B14'.out
    have B17 := Lib.hid B17'.out
    have OF := Lib.hid OF'.out
    have O9 := Lib.hid O9'.out
    have BP := Lib.hid BP'.out
    have BL := Lib.hid BL'.out
    have OL := Lib.hid OL'.out
    have HB := Lib.hid HB'.out
    clear B9' B10' B13' B14' B17' OF' O9' BP' BL' OL' HB'
    clear bel
    have bl_0 := BL.out.cell 0
    have bl_1 := BL.out.cell 1
    have bl_2 := BL.out.cell 2
    have bl_3 := BL.out.cell 3
    have bl_4 := BL.out.cell 4
    have bl_5 := BL.out.cell 5
    have bl_z := BL.out.lt
    simp at bl_0 bl_1 bl_2 bl_3 bl_4 bl_5
    have b13_0 := B13.out.cell 0
    have b13_1 := B13.out.cell 1
    have b13_2 := B13.out.cell 2
    have b13_3 := B13.out.cell 3
    have b13_4 := B13.out.cell 4
    have b13_5 := B13.out.cell 5
    have b13_z := B13.out.lt
    simp at b13_0 b13_1 b13_2 b13_3 b13_4 b13_5
    have b14_0 := B14.out.cell 0
    have b14_1 := B14.out.cell 1
    have b14_2 := B14.out.cell 2
    have b14_3 := B14.out.cell 3
    have b14_z := B14.out.lt
    simp at b14_0 b14_1 b14_2 b14_3
    have KX := Lib.hid (lay_frame p f x y g1 c (y1.alloc (.cells #[.int .i64 f3.W, .int .i64 f3.H, .slice p3.ac f3.nc p3.kc, .slice p3.ad f3.nd p3.kd, .slice p3.ai f3.ni p3.ki, .slice p3.a4 f3.nt p3.kt] 29)) (OL.out.below ((Below.refl y1.heap.size y1).alloc (Nat.le_refl _) (.cells #[.int .i64 f3.W, .int .i64 f3.H, .slice p3.ac f3.nc p3.kc, .slice p3.ad f3.nd p3.kd, .slice p3.ai f3.ni p3.ki, .slice p3.a4 f3.nt p3.kt] 29))))
    go_wp2_with fail
    refine KX.out.mono ?_
    rintro e y2 ⟨⟨p4, f4, e4, rfl, hown, hv⟩, bel⟩
    have O4 := Lib.hid hown.ok
    have V4 := Lib.hid (lay_hid HL.out.2 IN.out.2.2.2.2 hv)
    have BA := Lib.hid ((hasBlk_new y1 29 #[.int .i64 f3.W, .int .i64 f3.H, .slice p3.ac f3.nc p3.kc, .slice p3.ad f3.nd p3.kd, .slice p3.ai f3.ni p3.ki, .slice p3.a4 f3.nt p3.kt]).below bel)
    have bA := ((Below.refl y1.heap.size y1).alloc (Nat.le_refl _) (.cells #[.int .i64 f3.W, .int .i64 f3.H, .slice p3.ac f3.nc p3.kc, .slice p3.ad f3.nd p3.kd, .slice p3.ai f3.ni p3.ki, .slice p3.a4 f3.nt p3.kt] 29)).trans (bel.mono (by simp))
    have O3n := Lib.hid (O3.out.below bA)
    obtain ⟨x26, hx26⟩ : ∃ x26, x26 = y1.heap.size := ⟨_, rfl⟩
    rw [← hx26] at BA ⊢
    clear KX hown hv hx26 bel O3
    have O3 := Lib.hid O3n.out
    clear O3n
    clear bl_0 bl_1 bl_2 bl_3 bl_4 bl_5 bl_z
    clear b13_0 b13_1 b13_2 b13_3 b13_4 b13_5 b13_z
    clear b14_0 b14_1 b14_2 b14_3 b14_z
    have bmv := bA
    have B9' := Lib.hid (B9.out.below bmv)
    have B10' := Lib.hid (B10.out.below bmv)
    have B13' := Lib.hid (B13.out.below bmv)
    have B14' := Lib.hid (B14.out.below bmv)
    have B17' := Lib.hid (B17.out.below bmv)
    have OF' := Lib.hid (OF.out.below bmv)
    have O9' := Lib.hid (O9.out.below bmv)
    have BP' := Lib.hid (BP.out.below bmv)
    have BL' := Lib.hid (BL.out.below bmv)
    have OL' := Lib.hid (OL.out.below bmv)
    have HB' := Lib.hid (HB.out.trans (bmv.mono HB.out.size))
    clear bmv B9 B10 B13 B14 B17 OF O9 BP BL OL HB
    have B9 := Lib.hid B9'.out
    have B10 := Lib.hid B10'.out
    have B13 := Lib.hid B13'.out
    have B14 := Lib.hid B14'.out
    have B17 := Lib.hid B17'.out
    have OF := Lib.hid OF'.out
    have O9 := Lib.hid O9'.out
    have BP := Lib.hid BP'.out
    have BL := Lib.hid BL'.out
    have OL := Lib.hid OL'.out
    have HB := Lib.hid HB'.out
    clear B9' B10' B13' B14' B17' OF' O9' BP' BL' OL' HB'
    clear bA
    go_upto_region 15 with fail
    have BC := Lib.hid (hasBlk_new y2 29 #[.int .i64 f4.W, .int .i64 f4.H, .slice p4.ac f4.nc p4.kc, .slice p4.ad f4.nd p4.kd, .slice p4.ai f4.ni p4.ki, .slice p4.a4 f4.nt p4.kt])
    have bA := ((Below.refl y2.heap.size y2).alloc (Nat.le_refl _) (.cells #[.int .i64 f4.W, .int .i64 f4.H, .slice p4.ac f4.nc p4.kc, .slice p4.ad f4.nd p4.kd, .slice p4.ai f4.ni p4.ki, .slice p4.a4 f4.nt p4.kt] 29))
    have bmv := bA
    have B9' := Lib.hid (B9.out.below bmv)
    have B10' := Lib.hid (B10.out.below bmv)
    have B13' := Lib.hid (B13.out.below bmv)
    have B14' := Lib.hid (B14.out.below bmv)
    have B17' := Lib.hid (B17.out.below bmv)
    have OF' := Lib.hid (OF.out.below bmv)
    have O9' := Lib.hid (O9.out.below bmv)
    have BP' := Lib.hid (BP.out.below bmv)
    have BL' := Lib.hid (BL.out.below bmv)
    have OL' := Lib.hid (OL.out.below bmv)
    have BA' := Lib.hid (BA.out.below bmv)
    have O3' := Lib.hid (O3.out.below bmv)
    have O4' := Lib.hid (O4.out.below bmv)
    have HB' := Lib.hid (HB.out.trans (bmv.mono HB.out.size))
    clear bmv B9 B10 B13 B14 B17 OF O9 BP BL OL BA O3 O4 HB
    have B9 := Lib.hid B9'.out
    have B10 := Lib.hid B10'.out
    have B13 := Lib.hid B13'.out
    have B14 := Lib.hid B14'.out
    have B17 := Lib.hid B17'.out
    have OF := Lib.hid OF'.out
    have O9 := Lib.hid O9'.out
    have BP := Lib.hid BP'.out
    have BL := Lib.hid BL'.out
    have OL := Lib.hid OL'.out
    have BA := Lib.hid BA'.out
    have O3 := Lib.hid O3'.out
    have O4 := Lib.hid O4'.out
    have HB := Lib.hid HB'.out
    clear B9' B10' B13' B14' B17' OF' O9' BP' BL' OL' BA' O3' O4' HB'
    clear bA
    obtain ⟨x28, hx28⟩ : ∃ x28, x28 = y2.heap.size := ⟨_, rfl⟩
    rw [← hx28] at BC ⊢
    clear hx28
    generalize y2.alloc (.cells #[.int .i64 f4.W, .int .i64 f4.H, .slice p4.ac f4.nc p4.kc, .slice p4.ad f4.nd p4.kd, .slice p4.ai f4.ni p4.ki, .slice p4.a4 f4.nt p4.kt] 29) = y3 at *
    by_cases hz3 : e3 = 0
    · have EBA := Lib.hid (V3.out hz3)
      subst hz3
      have ba_0 := BA.out.cell 0
      have ba_1 := BA.out.cell 1
      have ba_2 := BA.out.cell 2
      have ba_3 := BA.out.cell 3
      have ba_4 := BA.out.cell 4
      have ba_5 := BA.out.cell 5
      have ba_z := BA.out.lt
      simp at ba_0 ba_1 ba_2 ba_3 ba_4 ba_5
      have bl_0 := BL.out.cell 0
      have bl_1 := BL.out.cell 1
      have bl_2 := BL.out.cell 2
      have bl_3 := BL.out.cell 3
      have bl_4 := BL.out.cell 4
      have bl_5 := BL.out.cell 5
      have bl_z := BL.out.lt
      simp at bl_0 bl_1 bl_2 bl_3 bl_4 bl_5
      have KX := Lib.hid (same_any p3 p f3 f y3 O3.out OL.out (by rw [EBA.out]; exact HL.out.1.lens))
      go_wp2_with fail
      refine KX.out.mono ?_
      rintro e y4 ⟨⟨bs, rfl, hbs⟩, bel⟩
      obtain rfl : bs = true := hbs.2 (by rw [EBA.out]; exact FD.Same.refl _)
      clear KX hbs
      clear ba_0 ba_1 ba_2 ba_3 ba_4 ba_5 ba_z
      clear bl_0 bl_1 bl_2 bl_3 bl_4 bl_5 bl_z
      have bmv := bel
      have B9' := Lib.hid (B9.out.below bmv)
      have B10' := Lib.hid (B10.out.below bmv)
      have B13' := Lib.hid (B13.out.below bmv)
      have B14' := Lib.hid (B14.out.below bmv)
      have B17' := Lib.hid (B17.out.below bmv)
      have OF' := Lib.hid (OF.out.below bmv)
      have O9' := Lib.hid (O9.out.below bmv)
      have BP' := Lib.hid (BP.out.below bmv)
      have BL' := Lib.hid (BL.out.below bmv)
      have OL' := Lib.hid (OL.out.below bmv)
      have BA' := Lib.hid (BA.out.below bmv)
      have O3' := Lib.hid (O3.out.below bmv)
      have O4' := Lib.hid (O4.out.below bmv)
      have BC' := Lib.hid (BC.out.below bmv)
      have HB' := Lib.hid (HB.out.trans (bmv.mono HB.out.size))
      clear bmv B9 B10 B13 B14 B17 OF O9 BP BL OL BA O3 O4 BC HB
      have B9 := Lib.hid B9'.out
      have B10 := Lib.hid B10'.out
      have B13 := Lib.hid B13'.out
      have B14 := Lib.hid B14'.out
      have B17 := Lib.hid B17'.out
      have OF := Lib.hid OF'.out
      have O9 := Lib.hid O9'.out
      have BP := Lib.hid BP'.out
      have BL := Lib.hid BL'.out
      have OL := Lib.hid OL'.out
      have BA := Lib.hid BA'.out
      have O3 := Lib.hid O3'.out
      have O4 := Lib.hid O4'.out
      have BC := Lib.hid BC'.out
      have HB := Lib.hid HB'.out
      clear B9' B10' B13' B14' B17' OF' O9' BP' BL' OL' BA' O3' O4' BC' HB'
      clear bel
      by_cases hz4 : e4 = 0
      · have EBC := Lib.hid (V4.out hz4)
        subst hz4
        have bc_0 := BC.out.cell 0
        have bc_1 := BC.out.cell 1
        have bc_2 := BC.out.cell 2
        have bc_3 := BC.out.cell 3
        have bc_4 := BC.out.cell 4
        have bc_5 := BC.out.cell 5
        have bc_z := BC.out.lt
        simp at bc_0 bc_1 bc_2 bc_3 bc_4 bc_5
        have bl_0 := BL.out.cell 0
        have bl_1 := BL.out.cell 1
        have bl_2 := BL.out.cell 2
        have bl_3 := BL.out.cell 3
        have bl_4 := BL.out.cell 4
        have bl_5 := BL.out.cell 5
        have bl_z := BL.out.lt
        simp at bl_0 bl_1 bl_2 bl_3 bl_4 bl_5
        have KX := Lib.hid (same_any p4 p f4 f y4 O4.out OL.out (by rw [EBC.out]; exact HL.out.1.lens))
        go_wp2_with fail
        refine KX.out.mono ?_
        rintro e y5 ⟨⟨bs, rfl, hbs⟩, bel⟩
        obtain rfl : bs = true := hbs.2 (by rw [EBC.out]; exact FD.Same.refl _)
        clear KX hbs
        clear bc_0 bc_1 bc_2 bc_3 bc_4 bc_5 bc_z
        clear bl_0 bl_1 bl_2 bl_3 bl_4 bl_5 bl_z
        have bmv := bel
        have B9' := Lib.hid (B9.out.below bmv)
        have B10' := Lib.hid (B10.out.below bmv)
        have B13' := Lib.hid (B13.out.below bmv)
        have B14' := Lib.hid (B14.out.below bmv)
        have B17' := Lib.hid (B17.out.below bmv)
        have OF' := Lib.hid (OF.out.below bmv)
        have O9' := Lib.hid (O9.out.below bmv)
        have BP' := Lib.hid (BP.out.below bmv)
        have BL' := Lib.hid (BL.out.below bmv)
        have OL' := Lib.hid (OL.out.below bmv)
        have BA' := Lib.hid (BA.out.below bmv)
        have O3' := Lib.hid (O3.out.below bmv)
        have O4' := Lib.hid (O4.out.below bmv)
        have BC' := Lib.hid (BC.out.below bmv)
        have HB' := Lib.hid (HB.out.trans (bmv.mono HB.out.size))
        clear bmv B9 B10 B13 B14 B17 OF O9 BP BL OL BA O3 O4 BC HB
        have B9 := Lib.hid B9'.out
        have B10 := Lib.hid B10'.out
        have B13 := Lib.hid B13'.out
        have B14 := Lib.hid B14'.out
        have B17 := Lib.hid B17'.out
        have OF := Lib.hid OF'.out
        have O9 := Lib.hid O9'.out
        have BP := Lib.hid BP'.out
        have BL := Lib.hid BL'.out
        have OL := Lib.hid OL'.out
        have BA := Lib.hid BA'.out
        have O3 := Lib.hid O3'.out
        have O4 := Lib.hid O4'.out
        have BC := Lib.hid BC'.out
        have HB := Lib.hid HB'.out
        clear B9' B10' B13' B14' B17' OF' O9' BP' BL' OL' BA' O3' O4' BC' HB'
        clear bel
        have bp_0 := BP.out.cell 0
        have bp_z := BP.out.lt
        simp at bp_0
        have KX := Lib.hid (refcheckp_any d9 p9 V9.out.Sm y5 O9.out)
        go_wp2_with fail
        refine KX.out.mono ?_
        rintro e ye ⟨rfl, bel⟩
        have hc := HC.out
        have HE := Lib.hid (HB.out.trans (bel.mono HB.out.size))
        clear KX bel
        rw [hc]
        go_wp2
        go_ret
        exact ⟨rfl, HE.out⟩
      · have q4 : (e4 != 0) = true := by simpa using hz4
        clear hz4
        have bp_0 := BP.out.cell 0
        have bp_z := BP.out.lt
        simp at bp_0
        have KX := Lib.hid (refcheckp_any d9 p9 V9.out.Sm y4 O9.out)
        go_wp2_with fail
        refine KX.out.mono ?_
        rintro e ye ⟨rfl, bel⟩
        have hc := HC.out
        have HE := Lib.hid (HB.out.trans (bel.mono HB.out.size))
        clear KX bel
        rw [hc]
        go_wp2
        go_ret
        exact ⟨rfl, HE.out⟩
    · have q3 : (e3 != 0) = true := by simpa using hz3
      clear hz3
      by_cases hz4 : e4 = 0
      · have EBC := Lib.hid (V4.out hz4)
        subst hz4
        have bc_0 := BC.out.cell 0
        have bc_1 := BC.out.cell 1
        have bc_2 := BC.out.cell 2
        have bc_3 := BC.out.cell 3
        have bc_4 := BC.out.cell 4
        have bc_5 := BC.out.cell 5
        have bc_z := BC.out.lt
        simp at bc_0 bc_1 bc_2 bc_3 bc_4 bc_5
        have bl_0 := BL.out.cell 0
        have bl_1 := BL.out.cell 1
        have bl_2 := BL.out.cell 2
        have bl_3 := BL.out.cell 3
        have bl_4 := BL.out.cell 4
        have bl_5 := BL.out.cell 5
        have bl_z := BL.out.lt
        simp at bl_0 bl_1 bl_2 bl_3 bl_4 bl_5
        have KX := Lib.hid (same_any p4 p f4 f y3 O4.out OL.out (by rw [EBC.out]; exact HL.out.1.lens))
        go_wp2_with fail
        refine KX.out.mono ?_
        rintro e y5 ⟨⟨bs, rfl, hbs⟩, bel⟩
        obtain rfl : bs = true := hbs.2 (by rw [EBC.out]; exact FD.Same.refl _)
        clear KX hbs
        clear bc_0 bc_1 bc_2 bc_3 bc_4 bc_5 bc_z
        clear bl_0 bl_1 bl_2 bl_3 bl_4 bl_5 bl_z
        have bmv := bel
        have B9' := Lib.hid (B9.out.below bmv)
        have B10' := Lib.hid (B10.out.below bmv)
        have B13' := Lib.hid (B13.out.below bmv)
        have B14' := Lib.hid (B14.out.below bmv)
        have B17' := Lib.hid (B17.out.below bmv)
        have OF' := Lib.hid (OF.out.below bmv)
        have O9' := Lib.hid (O9.out.below bmv)
        have BP' := Lib.hid (BP.out.below bmv)
        have BL' := Lib.hid (BL.out.below bmv)
        have OL' := Lib.hid (OL.out.below bmv)
        have BA' := Lib.hid (BA.out.below bmv)
        have O3' := Lib.hid (O3.out.below bmv)
        have O4' := Lib.hid (O4.out.below bmv)
        have BC' := Lib.hid (BC.out.below bmv)
        have HB' := Lib.hid (HB.out.trans (bmv.mono HB.out.size))
        clear bmv B9 B10 B13 B14 B17 OF O9 BP BL OL BA O3 O4 BC HB
        have B9 := Lib.hid B9'.out
        have B10 := Lib.hid B10'.out
        have B13 := Lib.hid B13'.out
        have B14 := Lib.hid B14'.out
        have B17 := Lib.hid B17'.out
        have OF := Lib.hid OF'.out
        have O9 := Lib.hid O9'.out
        have BP := Lib.hid BP'.out
        have BL := Lib.hid BL'.out
        have OL := Lib.hid OL'.out
        have BA := Lib.hid BA'.out
        have O3 := Lib.hid O3'.out
        have O4 := Lib.hid O4'.out
        have BC := Lib.hid BC'.out
        have HB := Lib.hid HB'.out
        clear B9' B10' B13' B14' B17' OF' O9' BP' BL' OL' BA' O3' O4' BC' HB'
        clear bel
        have bp_0 := BP.out.cell 0
        have bp_z := BP.out.lt
        simp at bp_0
        have KX := Lib.hid (refcheckp_any d9 p9 V9.out.Sm y5 O9.out)
        go_wp2_with fail
        refine KX.out.mono ?_
        rintro e ye ⟨rfl, bel⟩
        have hc := HC.out
        have HE := Lib.hid (HB.out.trans (bel.mono HB.out.size))
        clear KX bel
        rw [hc]
        go_wp2
        go_ret
        exact ⟨rfl, HE.out⟩
      · have q4 : (e4 != 0) = true := by simpa using hz4
        clear hz4
        have bp_0 := BP.out.cell 0
        have bp_z := BP.out.lt
        simp at bp_0
        have KX := Lib.hid (refcheckp_any d9 p9 V9.out.Sm y3 O9.out)
        go_wp2_with fail
        refine KX.out.mono ?_
        rintro e ye ⟨rfl, bel⟩
        have hc := HC.out
        have HE := Lib.hid (HB.out.trans (bel.mono HB.out.size))
        clear KX bel
        rw [hc]
        go_wp2
        go_ret
        exact ⟨rfl, HE.out⟩
theorem pyramidHides_arg (v0 v1 v2 v3 v4 v5 v6 v7 v8 : Value) (w : World) (a0 : Arg Try.prog w 29 v0) (a1 : Arg Try.prog w 55 v1) (a2 : Arg Try.prog w 3 v2) (a3 : Arg Try.prog w 3 v3) (a4 : Arg Try.prog w 25 v4) (a5 : Arg Try.prog w 23 v5) (a6 : Arg Try.prog w 3 v6) (a7 : Arg Try.prog w 3 v7) (a8 : Arg Try.prog w 25 v8) :
    Calls Try.prog 12 #[v0, v1, v2, v3, v4, v5, v6, v7, v8] w fun e w' => e = .returned (.bool true) ∧ Below w.heap.size w w' := by
  obtain ⟨p, f, rfl, hok, hbd⟩ := arg_frame a0
  obtain ⟨r, D, rfl⟩ := arg_shade a1
  obtain ⟨x, rfl⟩ := arg_int a2
  obtain ⟨y, rfl⟩ := arg_int a3
  obtain ⟨g1, g2, g3, g4, g5, g6, rfl⟩ := arg_fg a4
  obtain ⟨c, rfl⟩ := arg_col a5
  obtain ⟨z, rfl⟩ := arg_int a6
  obtain ⟨v, rfl⟩ := arg_int a7
  obtain ⟨h1, h2, h3, h4, h5, h6, rfl⟩ := arg_fg a8
  exact pyramidHides_walk p f r D x y z v g1 g2 g3 g4 g5 g6 h1 h2 h3 h4 h5 h6 c w hok
end Go.Proofs.Ytibeoeooajelgaa
