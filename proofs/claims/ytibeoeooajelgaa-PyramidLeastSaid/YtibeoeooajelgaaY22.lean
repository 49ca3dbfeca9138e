/- pyramid: PyramidLeast. -/
import Derived.Test.YtibeoeooajelgaaAl
import Derived.Test.YtibeoeooajelgaaLst2
namespace Go.Proofs.Ytibeoeooajelgaa
open Go.RowKit
set_option linter.unusedVariables false
theorem made_ints (n : Nat) : madeCells #[.int .i64 0] (n * 1) = (cellsR 1 (fun _ _ => Value.int .i64 0) n).toArray := by
  apply Array.toList_inj.1
  rw [toList_madeCells_one, Nat.mul_one]
  show List.replicate n _ = cellsR 1 (fun _ _ => Value.int .i64 0) n
  induction n with
  | zero => rfl
  | succ n ih => rw [List.replicate_succ', ih, cellsR_succ]; rfl
theorem blk_cell {w : World} {g t n : Nat} {l : Nat → Int} (h : HasBlk w g 3 (cellsR 1 (fun i _ => Value.int .i64 (l i)) n).toArray) (ht : t < n) : w.cell? ⟨g, t, none⟩ = some (.int .i64 (l t)) := by
  rw [h.cell t]
  have := cellsR_at (s := 1) (F := fun i _ => Value.int .i64 (l i)) ht (show 0 < 1 by omega)
  simpa using this
theorem blk_put {w : World} {g t n : Nat} {l : Nat → Int} (h : HasBlk w g 3 (cellsR 1 (fun i _ => Value.int .i64 (l i)) n).toArray) (v : Int) : HasBlk (w.setCell ⟨g, t, none⟩ (.int .i64 v)) g 3 (cellsR 1 (fun i _ => Value.int .i64 (upd l t v i)) n).toArray := by
  have h1 := h.set t (.int .i64 v)
  have e : (cellsR 1 (fun i _ => Value.int .i64 (l i)) n).toArray.setIfInBounds t (.int .i64 v) = (cellsR 1 (fun i _ => Value.int .i64 (upd l t v i)) n).toArray := by
    rw [List.setIfInBounds_toArray, set_any_int]
  rw [e] at h1
  exact h1

set_option maxRecDepth 100000 in
set_option maxHeartbeats 32000000 in
theorem pyramidLeast_walk (p : FP) (f : FD) (r : RC) (w : World) (hf : FOk w p f) :
    Calls Try.prog 10 #[.agg #[.int .i64 f.W, .int .i64 f.H, .slice p.ac f.nc p.kc, .slice p.ad f.nd p.kd, .slice p.ai f.ni p.ki, .slice p.a4 f.nt p.kt], .agg #[.int .i64 r.X0, .int .i64 r.Y0, .int .i64 r.X1, .int .i64 r.Y1]] w fun e w' => e = .returned (.bool true) ∧ Below w.heap.size w w' := by
  obtain ⟨X0, Y0, X1, Y1⟩ := r
  dsimp only
  have B2 := Lib.hid (show HasBlk ((w.alloc (.cells #[.int .i64 f.W, .int .i64 f.H, .slice p.ac f.nc p.kc, .slice p.ad f.nd p.kd, .slice p.ai f.ni p.ki, .slice p.a4 f.nt p.kt] 29)).alloc (.cells #[.int .i64 X0, .int .i64 Y0, .int .i64 X1, .int .i64 Y1] 53)) w.heap.size 29 #[.int .i64 f.W, .int .i64 f.H, .slice p.ac f.nc p.kc, .slice p.ad f.nd p.kd, .slice p.ai f.ni p.ki, .slice p.a4 f.nt p.kt] from (hasBlk_new w 29 #[.int .i64 f.W, .int .i64 f.H, .slice p.ac f.nc p.kc, .slice p.ad f.nd p.kd, .slice p.ai f.ni p.ki, .slice p.a4 f.nt p.kt]).alloc _)
  have B3 := Lib.hid (show HasBlk ((w.alloc (.cells #[.int .i64 f.W, .int .i64 f.H, .slice p.ac f.nc p.kc, .slice p.ad f.nd p.kd, .slice p.ai f.ni p.ki, .slice p.a4 f.nt p.kt] 29)).alloc (.cells #[.int .i64 X0, .int .i64 Y0, .int .i64 X1, .int .i64 Y1] 53)) (w.heap.size + 1) 53 #[.int .i64 X0, .int .i64 Y0, .int .i64 X1, .int .i64 Y1] by simpa using hasBlk_new (w.alloc (.cells #[.int .i64 f.W, .int .i64 f.H, .slice p.ac f.nc p.kc, .slice p.ad f.nd p.kd, .slice p.ai f.ni p.ki, .slice p.a4 f.nt p.kt] 29)) 53 #[.int .i64 X0, .int .i64 Y0, .int .i64 X1, .int .i64 Y1])
  have HB := Lib.hid (show Below w.heap.size w ((w.alloc (.cells #[.int .i64 f.W, .int .i64 f.H, .slice p.ac f.nc p.kc, .slice p.ad f.nd p.kd, .slice p.ai f.ni p.ki, .slice p.a4 f.nt p.kt] 29)).alloc (.cells #[.int .i64 X0, .int .i64 Y0, .int .i64 X1, .int .i64 Y1] 53)) by
    repeat' (first | exact Below.refl _ _ | refine Below.alloc ?_ (by first | omega | (simp; done) | (simp; omega)) _))
  have OF := Lib.hid (hf.below HB.out)
  obtain ⟨i0, hi0, hz0, hz1, hz2⟩ := info_parts int_info
  have MK := Lib.hid (fun (n : Nat) (hn : n ≤ 4096) (W : World) => make_full (P := Try.prog) Try.underlying27 hi0 hz0 n (by rw [hz2]; omega) (by omega) W)
  have HZ1 := Lib.hid hz1
  clear hf hi0 hz0 hz2
  go_enter Try.func10, Try.ntmps10
  go_upto_region 1 with fail
  generalize ((w.alloc (.cells #[.int .i64 f.W, .int .i64 f.H, .slice p.ac f.nc p.kc, .slice p.ad f.nd p.kd, .slice p.ai f.ni p.ki, .slice p.a4 f.nt p.kt] 29)).alloc (.cells #[.int .i64 X0, .int .i64 Y0, .int .i64 X1, .int .i64 Y1] 53)) = v0 at *
  have KX := Lib.hid (alive9_any v0)
  go_wp2_with fail
  refine KX.out.mono ?_
  rintro e v1 ⟨rfl, bel⟩
  clear KX
  have bmv := bel
  have B2' := Lib.hid (B2.out.below bmv)
  have B3' := Lib.hid (B3.out.below bmv)
  have OF' := Lib.hid (OF.out.below bmv)
  have HB' := Lib.hid (HB.out.trans (bmv.mono HB.out.size))
  clear bmv B2 B3 OF HB
  have B2 := Lib.hid B2'.out
  have B3 := Lib.hid B3'.out
  have OF := Lib.hid OF'.out
  have HB := Lib.hid HB'.out
  clear B2' B3' OF' HB'
  clear bel
  have b2_0 := B2.out.cell 0
  have b2_1 := B2.out.cell 1
  have b2_2 := B2.out.cell 2
  have b2_3 := B2.out.cell 3
  have b2_4 := B2.out.cell 4
  have b2_5 := B2.out.cell 5
  have b2_z := B2.out.lt
  simp at b2_0 b2_1 b2_2 b2_3 b2_4 b2_5
  have KX := Lib.hid (great_any p f v1)
  go_wp2_with fail
  refine KX.out.mono ?_
  rintro e v2 ⟨⟨b, rfl, hb⟩, bel⟩
  clear KX hb
  clear b2_0 b2_1 b2_2 b2_3 b2_4 b2_5 b2_z
  have bmv := bel
  have B2' := Lib.hid (B2.out.below bmv)
  have B3' := Lib.hid (B3.out.below bmv)
  have OF' := Lib.hid (OF.out.below bmv)
  have HB' := Lib.hid (HB.out.trans (bmv.mono HB.out.size))
  clear bmv B2 B3 OF HB
  have B2 := Lib.hid B2'.out
  have B3 := Lib.hid B3'.out
  have OF := Lib.hid OF'.out
  have HB := Lib.hid HB'.out
  clear B2' B3' OF' HB'
  clear bel
  cases b
  rotate_left
  · go_wp2
    go_ret
    exact ⟨rfl, HB.out⟩
  have b2_0 := B2.out.cell 0
  have b2_1 := B2.out.cell 1
  have b2_2 := B2.out.cell 2
  have b2_3 := B2.out.cell 3
  have b2_4 := B2.out.cell 4
  have b2_5 := B2.out.cell 5
  have b2_z := B2.out.lt
  simp at b2_0 b2_1 b2_2 b2_3 b2_4 b2_5
  have KX := Lib.hid (pbuild_any p f v2 OF.out)
  go_wp2_with fail
  refine KX.out.mono ?_
  rintro e v3 ⟨hbr, bel⟩
  obtain ⟨p9, d9, c1, rfl, hown, hv⟩ := hbr.v
  have O9 := Lib.hid hown.ok
  have V9 := Lib.hid hv
  clear KX hbr hown hv
  clear b2_0 b2_1 b2_2 b2_3 b2_4 b2_5 b2_z
  have bmv := bel
  have B2' := Lib.hid (B2.out.below bmv)
  have B3' := Lib.hid (B3.out.below bmv)
  have OF' := Lib.hid (OF.out.below bmv)
  have HB' := Lib.hid (HB.out.trans (bmv.mono HB.out.size))
  clear bmv B2 B3 OF HB
  have B2 := Lib.hid B2'.out
  have B3 := Lib.hid B3'.out
  have OF := Lib.hid OF'.out
  have HB := Lib.hid HB'.out
  clear B2' B3' OF' HB'
  clear bel
  go_upto_region 7 with fail
  have B6 := Lib.hid (hasBlk_new v3 51 #[.slice p9.A d9.n p9.c])
  have bA := (Below.refl v3.heap.size v3).alloc (Nat.le_refl _) (.cells #[.slice p9.A d9.n p9.c] 51)
  have bmv := bA
  have B2' := Lib.hid (B2.out.below bmv)
  have B3' := Lib.hid (B3.out.below bmv)
  have OF' := Lib.hid (OF.out.below bmv)
  have O9' := Lib.hid (O9.out.below bmv)
  have HB' := Lib.hid (HB.out.trans (bmv.mono HB.out.size))
  clear bmv B2 B3 OF O9 HB
  have B2 := Lib.hid B2'.out
  have B3 := Lib.hid B3'.out
  have OF := Lib.hid OF'.out
  have O9 := Lib.hid O9'.out
  have HB := Lib.hid HB'.out
  clear B2' B3' OF' O9' HB'
  clear bA
  obtain ⟨x6, hx6⟩ : ∃ x6, x6 = v3.heap.size := ⟨_, rfl⟩
  rw [← hx6] at B6 ⊢
  clear hx6
  generalize v3.alloc (.cells #[.slice p9.A d9.n p9.c] 51) = v4 at *
  by_cases hc1 : c1 = 0
  rotate_left
  · have hn0 : (d9.n : Int) = 0 := by
      rcases V9.out with ⟨_, q, _⟩ | ⟨_, q, _⟩
      · rw [q]; rfl
      · exact absurd q hc1
    have q1 : (c1 != 0) = true := by simpa using hc1
    have b6_0 := B6.out.cell 0
    have b6_z := B6.out.lt
    simp at b6_0
    clear hc1
    go_wp2
    go_ret
    exact ⟨rfl, HB.out⟩
  subst hc1
  obtain ⟨hm, K, ht, hd9⟩ : f.May ∧ ∃ k, f.ld.Top k ∧ d9 = f.ld.pd k := by
    rcases V9.out with ⟨_, _, q⟩ | ⟨q, _, k, q2, q3⟩
    · cases q
    · exact ⟨q, k, q2, q3⟩
  have Sm := Lib.hid V9.out.Sm
  have HM := Lib.hid hm
  obtain ⟨X, Y, e1, e2, ⟨hx1, hx2, hy1, hy2⟩, hz, -, -, -, hl, hD⟩ := hm.nums
  rw [hl] at ht hd9
  have K6 := ht.six hx1 hy1 hx2 hy2
  have TOP := Lib.hid ht
  have EL := Lib.hid hl
  have HD := Lib.hid hD
  have LE := Lib.hid (show LD.Le (⟨X, Y, fun x y => f.D (y * X + x)⟩ : LD) from fun x y hx hy => (hD _ (LD.row_lt (l := (⟨X, Y, fun x y => f.D (y * X + x)⟩ : LD)) hx hy)).2)
  subst hd9
  obtain ⟨Z, hZ⟩ : ∃ Z, f.nd = Z := ⟨_, rfl⟩
  rw [e1, e2, hZ] at B2
  have ZZ := Lib.hid (show Z = X * Y by rw [← hZ]; exact hz)
  have hZ4 : Z ≤ 4096 := by rw [ZZ.out]; exact Nat.mul_le_mul hx2 hy2
  have DR := Lib.hid (show Row v4 p.ad Z 1 (fun i _ => .int .i64 (f.D i)) by have h := OF.out.2.1.row; rw [hZ] at h; exact h)
  have EW := Lib.hid (And.intro e1 e2)
  clear hm ht hl hD hZ hz V9 e1 e2
  obtain ⟨n, hn⟩ : ∃ n, ((⟨X, Y, fun x y => f.D (y * X + x)⟩ : LD).pd K).n = n := ⟨_, rfl⟩
  rw [hn] at B6
  have NK := Lib.hid (show n = K + 1 from hn.symm)
  have hn7 : n ≤ 7 := by rw [NK.out]; omega
  clear hn
  go_wp2
  have G2 := Lib.hid B2.out
  have G3 := Lib.hid B3.out
  have G6 := Lib.hid B6.out
  have G9 := Lib.hid O9.out
  have GD := Lib.hid DR.out
  have GH := Lib.hid HB.out
  clear B2 B3 B6 O9 DR HB OF
  go_loopw [8, 9] (fun s8 s9 wr => ∃ k : Nat, k ≤ n ∧ s8 = .int .i64 (2 ^ k : Nat) ∧ s9 = .int .i64 k ∧ Below v4.heap.size v4 wr) (fun _ s9 wr => n - (intOf s9).toNat)
  case atStart => exact ⟨0, Nat.zero_le _, rfl, rfl, Below.refl _ _⟩
  case round =>
    obtain ⟨k, hk, rfl, rfl, hbel⟩ := hrel
    have BV := Lib.hid hbel
    have B2 := Lib.hid (G2.out.below hbel)
    have B3 := Lib.hid (G3.out.below hbel)
    have B6 := Lib.hid (G6.out.below hbel)
    have O9 := Lib.hid (G9.out.below hbel)
    have DR := Lib.hid (GD.out.below hbel)
    have HB := Lib.hid (GH.out.trans (hbel.mono GH.out.size))
    clear hbel
    have b6_0 := B6.out.cell 0
    have b6_z := B6.out.lt
    simp at b6_0
    by_cases hkn : k < n
    rotate_left
    · obtain rfl : n = k := by omega
      have d0 : decide ((n : Int) < (n : Int)) = false := by simp
      clear G2 G3 G6 G9 GD GH BV
      have b3_0 := B3.out.cell 0
      have b3_1 := B3.out.cell 1
      have b3_2 := B3.out.cell 2
      have b3_3 := B3.out.cell 3
      have b3_z := B3.out.lt
      simp at b3_0 b3_1 b3_2 b3_3
      have hk := plow_any ((⟨X, Y, fun x y => f.D (y * X + x)⟩ : LD).pd K) p9 ⟨X0, Y0, X1, Y1⟩ Sm.out wr O9.out
      dsimp only at hk
      rw [show ((⟨X, Y, fun x y => f.D (y * X + x)⟩ : LD).pd K).n = n from NK.out.symm] at hk
      have KX := Lib.hid hk
      clear hk
      go_wp2_with fail
      refine KX.out.mono ?_
      rintro e y1 ⟨⟨m1, c2, rfl, hl⟩, bel⟩
      have HL := Lib.hid (LowR.built HM.out (k := K) (by rw [EL.out]; exact TOP.out) (by rw [EL.out]; exact hl))
      clear KX hl d0
      clear b3_0 b3_1 b3_2 b3_3 b3_z
      clear b6_0 b6_z
      have bmv := bel
      have B2' := Lib.hid (B2.out.below bmv)
      have B3' := Lib.hid (B3.out.below bmv)
      have DR' := Lib.hid (DR.out.below bmv)
      have HB' := Lib.hid (HB.out.trans (bmv.mono HB.out.size))
      clear bmv B2 B3 DR HB
      have B2 := Lib.hid B2'.out
      have B3 := Lib.hid B3'.out
      have DR := Lib.hid DR'.out
      have HB := Lib.hid HB'.out
      clear B2' B3' DR' HB'
      clear bel
      rcases HL.out with ⟨_, q1, q2⟩ | ⟨hbad, hc2, hlst⟩
      · clear HL
        subst q1 q2
        go_wp2
        go_ret
        exact ⟨rfl, HB.out⟩
      subst hc2
      have LST := Lib.hid (And.intro hbad hlst)
      clear hbad hlst HL
      go_wp2
      go_loopw [17, 18] (fun s17 s18 wr => ∃ (q : Nat) (m2 : Int), q ≤ Z ∧ s17 = .int .i64 m2 ∧ s18 = .int .i64 q ∧ WantV f.D X ⟨X0, Y0, X1, Y1⟩ q m2 ∧ Below y1.heap.size y1 wr) (fun _ s18 wr => Z - (intOf s18).toNat)
      case atStart => exact ⟨0, 1048576, Nat.zero_le _, rfl, rfl, WantV.start, Below.refl _ _⟩
      case round =>
        obtain ⟨q, m2, hq, rfl, rfl, hw, hbq⟩ := hrel
        have WV := Lib.hid hw
        have BQ := Lib.hid hbq
        have C2 := Lib.hid (B2.out.below hbq)
        have C3 := Lib.hid (B3.out.below hbq)
        have CD := Lib.hid (DR.out.below hbq)
        have hbz := hbq.size
        clear hw hbq
        have c2_0 := C2.out.cell 0
        have c2_1 := C2.out.cell 1
        have c2_2 := C2.out.cell 2
        have c2_3 := C2.out.cell 3
        have c2_z := C2.out.lt
        simp at c2_0 c2_1 c2_2 c2_3
        have c3_0 := C3.out.cell 0
        have c3_1 := C3.out.cell 1
        have c3_2 := C3.out.cell 2
        have c3_3 := C3.out.cell 3
        have c3_z := C3.out.lt
        simp at c3_0 c3_1 c3_2 c3_3
        by_cases hqz : q < Z
        rotate_left
        · obtain rfl : Z = q := by omega
          have d0 : decide ((Z : Int) < (Z : Int)) = false := by simp
          have hmm : m1 = m2 := WantV.fin (Y := Y) (r := ⟨X0, Y0, X1, Y1⟩) LE.out (by have h := LST.out.1; rw [EW.out.1, EW.out.2] at h; exact h) (by have h := LST.out.2; rw [EL.out] at h; exact h) (by rw [← ZZ.out]; exact WV.out)
          subst hmm
          go_wp2
          go_ret
          exact ⟨rfl, HB.out.trans (BQ.out.mono HB.out.size)⟩
        have d0 : decide ((q : Int) < (Z : Int)) = true := decide_eq_true (by omega)
        obtain ⟨M1, hM1⟩ : ∃ x, q % X = x := ⟨_, rfl⟩
        obtain ⟨A1, hA1⟩ : ∃ x, q / X = x := ⟨_, rfl⟩
        have nz1 : ¬ (X : Int) = 0 := by omega
        have f1 : (q : Int) / (X : Int) = (A1 : Int) := by rw [← hA1]; push_cast; rfl
        have f2 : (q : Int).tdiv (X : Int) = (A1 : Int) := by rw [Int.tdiv_eq_ediv_of_nonneg (by omega)]; exact f1
        have f5 : (q : Int) % (X : Int) = (M1 : Int) := by rw [← hM1]; push_cast; rfl
        have f6 : (q : Int).tmod (X : Int) = (M1 : Int) := by rw [Int.tmod_eq_emod_of_nonneg (by omega)]; exact f5
        have hA1q : A1 ≤ q := by rw [← hA1]; exact Nat.div_le_self _ _
        have w4 : IntKind.i64.wrap (A1 : Int) = (A1 : Int) := IntWalk.i64_in _ (by omega)
        have QQ := Lib.hid (And.intro hM1 hA1)
        clear hM1 hA1
        go_upto_region 37 with fail
        go_cut [204] from 164 to 211 (fun s wx => s = .bool (decide (X0 ≤ (M1 : Int) ∧ (M1 : Int) ≤ X1 ∧ Y0 ≤ (A1 : Int) ∧ (A1 : Int) ≤ Y1)) ∧ Below wr.heap.size wr wx)
        case first =>
          clear d0
          by_cases v0 : X0 ≤ (M1 : Int)
          rotate_left
          · have r0 : decide (X0 ≤ (M1 : Int)) = false := decide_eq_false v0
            have PD9 := Lib.hid (show decide (X0 ≤ (M1 : Int) ∧ (M1 : Int) ≤ X1 ∧ Y0 ≤ (A1 : Int) ∧ (A1 : Int) ≤ Y1) = false from decide_eq_false (fun h => by omega))
            clear v0
            have e2 := fun b : BW wr => BW.cell c2_0 c2_z b
            have e3 := fun b : BW wr => BW.cell c3_0 c3_z b
            have e4 := fun b : BW wr => BW.cell c3_1 c3_z b
            have e5 := fun b : BW wr => BW.cell c3_2 c3_z b
            have e6 := fun b : BW wr => BW.cell c3_3 c3_z b
            clear c2_0 c2_1 c2_2 c2_3 c3_0 c3_1 c3_2 c3_3
            refine wp_region_quiet_bw (by kernel_rfl) (by kernel_rfl) ?_
            repeat (go_big_quiet_step (fail))
            refine wpQuiet_nil ?_
            intro _ hw'
            obtain ⟨pq, hw''⟩ := hw'
            subst hw''
            clear e2 e3 e4 e5 e6
            go_wp2_with fail
            go_meet
            exact ⟨by rw [PD9.out], pq.h⟩
          have r0 : decide (X0 ≤ (M1 : Int)) = true := decide_eq_true v0
          by_cases v1 : (M1 : Int) ≤ X1
          rotate_left
          · have r1 : decide ((M1 : Int) ≤ X1) = false := decide_eq_false v1
            have PD9 := Lib.hid (show decide (X0 ≤ (M1 : Int) ∧ (M1 : Int) ≤ X1 ∧ Y0 ≤ (A1 : Int) ∧ (A1 : Int) ≤ Y1) = false from decide_eq_false (fun h => by omega))
            clear v1
            have e2 := fun b : BW wr => BW.cell c2_0 c2_z b
            have e3 := fun b : BW wr => BW.cell c3_0 c3_z b
            have e4 := fun b : BW wr => BW.cell c3_1 c3_z b
            have e5 := fun b : BW wr => BW.cell c3_2 c3_z b
            have e6 := fun b : BW wr => BW.cell c3_3 c3_z b
            clear c2_0 c2_1 c2_2 c2_3 c3_0 c3_1 c3_2 c3_3
            refine wp_region_quiet_bw (by kernel_rfl) (by kernel_rfl) ?_
            repeat (go_big_quiet_step (fail))
            refine wpQuiet_nil ?_
            intro _ hw'
            obtain ⟨pq, hw''⟩ := hw'
            subst hw''
            clear e2 e3 e4 e5 e6
            go_wp2_with fail
            go_meet
            exact ⟨by rw [PD9.out], pq.h⟩
          have r1 : decide ((M1 : Int) ≤ X1) = true := decide_eq_true v1
          by_cases v2 : Y0 ≤ (A1 : Int)
          rotate_left
          · have r2 : decide (Y0 ≤ (A1 : Int)) = false := decide_eq_false v2
            have PD9 := Lib.hid (show decide (X0 ≤ (M1 : Int) ∧ (M1 : Int) ≤ X1 ∧ Y0 ≤ (A1 : Int) ∧ (A1 : Int) ≤ Y1) = false from decide_eq_false (fun h => by omega))
            clear v2
            have e2 := fun b : BW wr => BW.cell c2_0 c2_z b
            have e3 := fun b : BW wr => BW.cell c3_0 c3_z b
            have e4 := fun b : BW wr => BW.cell c3_1 c3_z b
            have e5 := fun b : BW wr => BW.cell c3_2 c3_z b
            have e6 := fun b : BW wr => BW.cell c3_3 c3_z b
            clear c2_0 c2_1 c2_2 c2_3 c3_0 c3_1 c3_2 c3_3
            refine wp_region_quiet_bw (by kernel_rfl) (by kernel_rfl) ?_
            repeat (go_big_quiet_step (fail))
            refine wpQuiet_nil ?_
            intro _ hw'
            obtain ⟨pq, hw''⟩ := hw'
            subst hw''
            clear e2 e3 e4 e5 e6
            go_wp2_with fail
            go_meet
            exact ⟨by rw [PD9.out], pq.h⟩
          have r2 : decide (Y0 ≤ (A1 : Int)) = true := decide_eq_true v2
          by_cases v3 : (A1 : Int) ≤ Y1
          rotate_left
          · have r3 : decide ((A1 : Int) ≤ Y1) = false := decide_eq_false v3
            have PD9 := Lib.hid (show decide (X0 ≤ (M1 : Int) ∧ (M1 : Int) ≤ X1 ∧ Y0 ≤ (A1 : Int) ∧ (A1 : Int) ≤ Y1) = false from decide_eq_false (fun h => by omega))
            clear v3
            have e2 := fun b : BW wr => BW.cell c2_0 c2_z b
            have e3 := fun b : BW wr => BW.cell c3_0 c3_z b
            have e4 := fun b : BW wr => BW.cell c3_1 c3_z b
            have e5 := fun b : BW wr => BW.cell c3_2 c3_z b
            have e6 := fun b : BW wr => BW.cell c3_3 c3_z b
            clear c2_0 c2_1 c2_2 c2_3 c3_0 c3_1 c3_2 c3_3
            refine wp_region_quiet_bw (by kernel_rfl) (by kernel_rfl) ?_
            repeat (go_big_quiet_step (fail))
            refine wpQuiet_nil ?_
            intro _ hw'
            obtain ⟨pq, hw''⟩ := hw'
            subst hw''
            clear e2 e3 e4 e5 e6
            go_wp2_with fail
            go_meet
            exact ⟨by rw [PD9.out], pq.h⟩
          have r3 : decide ((A1 : Int) ≤ Y1) = true := decide_eq_true v3
          have PD9 := Lib.hid (show decide (X0 ≤ (M1 : Int) ∧ (M1 : Int) ≤ X1 ∧ Y0 ≤ (A1 : Int) ∧ (A1 : Int) ≤ Y1) = true from decide_eq_true ⟨v0, v1, v2, v3⟩)
          clear v0 v1 v2 v3
          have e2 := fun b : BW wr => BW.cell c2_0 c2_z b
          have e3 := fun b : BW wr => BW.cell c3_0 c3_z b
          have e4 := fun b : BW wr => BW.cell c3_1 c3_z b
          have e5 := fun b : BW wr => BW.cell c3_2 c3_z b
          have e6 := fun b : BW wr => BW.cell c3_3 c3_z b
          clear c2_0 c2_1 c2_2 c2_3 c3_0 c3_1 c3_2 c3_3
          refine wp_region_quiet_bw (by kernel_rfl) (by kernel_rfl) ?_
          repeat (go_big_quiet_step (fail))
          refine wpQuiet_nil ?_
          intro _ hw'
          obtain ⟨pq, hw''⟩ := hw'
          subst hw''
          clear e2 e3 e4 e5 e6
          go_wp2_with fail
          go_meet
          exact ⟨by rw [PD9.out], pq.h⟩
        case rest =>
          obtain ⟨rfl, hbw⟩ := hcut
          have D2 := Lib.hid (C2.out.below hbw)
          have DD := Lib.hid (CD.out.below hbw)
          have BN := Lib.hid (BQ.out.trans (hbw.mono hbz))
          clear hbw f1 f2 f5 f6 nz1 w4 c2_0 c2_1 c2_2 c2_3 c2_z c3_0 c3_1 c3_2 c3_3 c3_z
          by_cases hin : (X0 ≤ (M1 : Int) ∧ (M1 : Int) ≤ X1 ∧ Y0 ≤ (A1 : Int) ∧ (A1 : Int) ≤ Y1)
          · have hp9 : decide (X0 ≤ (M1 : Int) ∧ (M1 : Int) ≤ X1 ∧ Y0 ≤ (A1 : Int) ∧ (A1 : Int) ≤ Y1) = true := decide_eq_true hin
            have WN := Lib.hid (WV.out.inn (by rw [QQ.out.1, QQ.out.2]; exact hin))
            rw [hp9]
            clear hin hp9
            have d2_0 := D2.out.cell 0
            have d2_1 := D2.out.cell 1
            have d2_2 := D2.out.cell 2
            have d2_3 := D2.out.cell 3
            have d2_z := D2.out.lt
            simp at d2_0 d2_1 d2_2 d2_3
            obtain ⟨gD, oD, hDA, hgD, hcD⟩ := DD.out (by omega)
            have cD := hcD q hqz 0 (by omega)
            simp only [Nat.mul_one, Nat.add_zero] at cD
            rw [hDA] at d2_3
            obtain ⟨Dq, hDq⟩ : ∃ x, f.D q = x := ⟨_, rfl⟩
            rw [hDq] at cD WN
            have j3 : (q : Int) < (Z : Int) := by omega
            have j4 : ¬ ((Z : Int) ≤ (q : Int)) := by omega
            have j5 : (0 : Int) ≤ (q : Int) := by omega
            clear hcD hDq hDA
            go_wp2
            go_roundw
            case rel =>
              exact ⟨q + 1, min m2 Dq, by omega, rfl, by go_num, WN.out, BN.out⟩
            case measure => simp [intOf]; omega
          · have hp9 : decide (X0 ≤ (M1 : Int) ∧ (M1 : Int) ≤ X1 ∧ Y0 ≤ (A1 : Int) ∧ (A1 : Int) ≤ Y1) = false := decide_eq_false hin
            have WN := Lib.hid (WantV.out WV.out (by rw [QQ.out.1, QQ.out.2]; exact hin))
            rw [hp9]
            clear hin hp9
            go_wp2
            go_roundw
            case rel =>
              exact ⟨q + 1, m2, by omega, rfl, by go_num, WN.out, BN.out⟩
            case measure => simp [intOf]; omega
    have d0 : decide ((k : Int) < (n : Int)) = true := decide_eq_true (by omega)
    obtain ⟨S, hS⟩ : ∃ S : Nat, 2 ^ k = S := ⟨_, rfl⟩
    rw [hS]
    have S1 : 1 ≤ S := by rw [← hS]; exact Nat.one_le_two_pow
    have S2 : S ≤ 64 := by rw [← hS]; exact Nat.pow_le_pow_right (n := 2) (by omega) (show k ≤ 6 by have := NK.out; omega)
    have SS := Lib.hid hS
    clear hS
    obtain ⟨gA, oA, hA, hgA, _⟩ := O9.out.ls (show 0 < K + 1 by omega)
    have hkK : k < K + 1 := by have := NK.out; omega
    have x0 := O9.out.lev (i := k) (j := 0) hA hkK (by omega)
    have x1 := O9.out.lev (i := k) (j := 1) hA hkK (by omega)
    have x2 := O9.out.lev (i := k) (j := 2) hA hkK (by omega)
    have KD := Lib.hid (O9.out.kd k hkK)
    simp [pvc, LD.pd] at x0 x1 x2
    have hA' : p9.A = some ⟨gA, oA, none⟩ := hA
    rw [hA'] at b6_0
    clear hA'
    obtain ⟨Wk, hWk⟩ : ∃ x, ((⟨X, Y, fun x y => f.D (y * X + x)⟩ : LD).lev k).W = x := ⟨_, rfl⟩
    obtain ⟨Hk, hHk⟩ : ∃ x, ((⟨X, Y, fun x y => f.D (y * X + x)⟩ : LD).lev k).H = x := ⟨_, rfl⟩
    obtain ⟨sz, hsz⟩ : ∃ x, (⟨X, Y, fun x y => f.D (y * X + x)⟩ : LD).sz k = x := ⟨_, rfl⟩
    obtain ⟨KA, hKA⟩ : ∃ x, p9.KA k = x := ⟨_, rfl⟩
    obtain ⟨KC, hKC⟩ : ∃ x, p9.KC k = x := ⟨_, rfl⟩
    rw [hWk] at x0
    rw [hHk] at x1
    rw [hsz, hKA, hKC] at x2
    have hpos := LD.lev_pos (l := (⟨X, Y, fun x y => f.D (y * X + x)⟩ : LD)) hx1 hy1 k
    have hsm := LD.lev_small (l := (⟨X, Y, fun x y => f.D (y * X + x)⟩ : LD)) hx2 hy2 k
    rw [hWk, hHk] at hpos hsm
    have hw1 := hpos.1
    have hh1 := hpos.2
    have hw2 := hsm.1
    have hh2 := hsm.2
    have hszm : Wk * Hk = sz := by rw [← hsz, ← hWk, ← hHk]; rfl
    have hsz4 : sz ≤ 4096 := by rw [← hszm]; exact Nat.mul_le_mul hw2 hh2
    have TK := Lib.hid (show (Wk = 1 ∧ Hk = 1) ↔ k = K by
      rw [← hWk, ← hHk]
      constructor
      · intro h
        rcases Nat.lt_or_ge k K with q | q
        · exact absurd h (TOP.out.2.2 k q)
        · have := NK.out; omega
      · intro h
        subst h
        exact ⟨TOP.out.1, TOP.out.2.1⟩)
    have EE := Lib.hid (And.intro hWk (And.intro hHk (And.intro hsz hKA)))
    have SZM := Lib.hid hszm
    clear hWk hHk hsz hKC hpos hsm hA hszm
    have i1 : (k : Int) < (n : Int) := by omega
    have i2 : ¬ ((n : Int) ≤ (k : Int)) := by omega
    have i0' : (0 : Int) ≤ (k : Int) := by omega
    go_upto_region 14 with fail
    have B10 := Lib.hid (hasBlk_new wr 74 #[.int .i64 Wk, .int .i64 Hk, .slice KA sz KC])
    have bA := (Below.refl wr.heap.size wr).alloc (Nat.le_refl _) (.cells #[.int .i64 Wk, .int .i64 Hk, .slice KA sz KC] 74)
    have KR := Lib.hid (show Row wr KA sz 1 (fun t _ => .int .i64 (((⟨X, Y, fun x y => f.D (y * X + x)⟩ : LD).lev k).row t)) by
      have h := KD.out
      rw [show ((⟨X, Y, fun x y => f.D (y * X + x)⟩ : LD).pd K).L k = sz from EE.out.2.2.1, EE.out.2.2.2] at h
      exact h)
    have bmv := bA
    have B2' := Lib.hid (B2.out.below bmv)
    have B3' := Lib.hid (B3.out.below bmv)
    have B6' := Lib.hid (B6.out.below bmv)
    have O9' := Lib.hid (O9.out.below bmv)
    have DR' := Lib.hid (DR.out.below bmv)
    have KR' := Lib.hid (KR.out.below bmv)
    have HB' := Lib.hid (HB.out.trans (bmv.mono HB.out.size))
    clear bmv B2 B3 B6 O9 DR KR HB
    have B2 := Lib.hid B2'.out
    have B3 := Lib.hid B3'.out
    have B6 := Lib.hid B6'.out
    have O9 := Lib.hid O9'.out
    have DR := Lib.hid DR'.out
    have KR := Lib.hid KR'.out
    have HB := Lib.hid HB'.out
    clear B2' B3' B6' O9' DR' KR' HB'
    have BVn := Lib.hid (BV.out.trans (bA.mono BV.out.size))
    clear bA BV b6_0 b6_z x0 x1 x2 hgA KD d0 i1 i2 i0' hKA
    have BV := Lib.hid BVn.out
    clear BVn
    obtain ⟨x10, hx10⟩ : ∃ x10, x10 = wr.heap.size := ⟨_, rfl⟩
    rw [← hx10] at B10 ⊢
    clear hx10
    generalize wr.alloc (.cells #[.int .i64 Wk, .int .i64 Hk, .slice KA sz KC] 74) = u0 at *
    go_cut [86] from 51 to 86 (fun s wx => s = .bool false ∧ wx = u0)
    case first =>
      have b10_0 := B10.out.cell 0
      have b10_1 := B10.out.cell 1
      have b10_2 := B10.out.cell 2
      have b10_z := B10.out.lt
      simp at b10_0 b10_1 b10_2
      have b6_0 := B6.out.cell 0
      have b6_z := B6.out.lt
      simp at b6_0
      have d1 : decide ((Wk : Int) < 1) = false := decide_eq_false (by omega)
      have d2 : decide ((Hk : Int) < 1) = false := decide_eq_false (by omega)
      have hmul : (Wk : Int) * (Hk : Int) = (sz : Int) := by rw [← SZM.out]; push_cast; rfl
      have w1 : IntKind.i64.wrap (sz : Int) = (sz : Int) := IntWalk.i64_in _ (by omega)
      have d3 : ((sz : Int) != (sz : Int)) = false := by simp
      have w2 : (n : Int) - 1 = (K : Int) := by have := NK.out; omega
      have w3 : IntKind.i64.wrap (K : Int) = (K : Int) := IntWalk.i64_in _ (by omega)
      by_cases hkK' : k = K
      · obtain ⟨t1, t2⟩ := TK.out.2 hkK'
        have e1 : ((Wk : Int) == 1) = true := by simp; omega
        have e2 : ((Hk : Int) == 1) = true := by simp; omega
        have e3 : ((k : Int) == (K : Int)) = true := by simp; omega
        clear hkK' t1 t2
        go_wp2
        go_meet
        exact ⟨rfl, rfl⟩
      · have e3 : ((k : Int) == (K : Int)) = false := by simp; omega
        by_cases t1 : Wk = 1
        · have t2 : Hk ≠ 1 := fun q => hkK' (TK.out.1 ⟨t1, q⟩)
          have e1 : ((Wk : Int) == 1) = true := by simp; omega
          have e2 : ((Hk : Int) == 1) = false := by simp; omega
          clear hkK' t1 t2
          go_wp2
          go_meet
          exact ⟨rfl, rfl⟩
        · have e1 : ((Wk : Int) == 1) = false := by simp; omega
          clear hkK' t1
          go_wp2
          go_meet
          exact ⟨rfl, rfl⟩
    case rest =>
      obtain ⟨rfl, hcw⟩ := hcut
      obtain rfl := hcw.symm
      have hmk := MK.out sz hsz4
      rw [HZ1.out] at hmk
      simp only [show (Value.int .i64 0).cells = #[.int .i64 0] from rfl, made_ints] at hmk
      obtain ⟨MC, hMC⟩ : ∃ MC, (cellsR 1 (fun _ _ => Value.int .i64 0) sz).toArray = MC := ⟨_, rfl⟩
      rw [hMC] at hmk
      have b10_0 := B10.out.cell 0
      have b10_1 := B10.out.cell 1
      have b10_2 := B10.out.cell 2
      have b10_z := B10.out.lt
      simp at b10_0 b10_1 b10_2
      go_upto_region 17 with fail
      have BLn : HasBlk (u0.alloc (.cells MC 3)) u0.heap.size 3 (cellsR 1 (fun _ _ => Value.int .i64 0) sz).toArray := by
        rw [hMC]
        exact hasBlk_new u0 3 MC
      have BL := Lib.hid BLn
      have bA := (Below.refl u0.heap.size u0).alloc (Nat.le_refl _) (.cells MC 3)
      clear BLn hmk b10_0 b10_1 b10_2 b10_z
      obtain ⟨xL, hxL⟩ : ∃ xL, xL = u0.heap.size := ⟨_, rfl⟩
      rw [← hxL] at BL ⊢
      have LL := Lib.hid (show u0.heap.size ≤ xL by omega)
      clear hxL
      have BU := Lib.hid bA
      clear bA
      generalize u0.alloc (.cells MC 3) = u1 at *
      clear hMC
      go_wp2
      obtain ⟨wo, rfl⟩ : ∃ wo : World, wo = wr := ⟨wr, rfl⟩
      go_loopw [12] (fun s12 wr => ∃ (q : Nat) (g : Nat → Int), q ≤ Z ∧ s12 = .int .i64 q ∧ (∀ t, LeastV f.D X k Wk q t (g t)) ∧ HasBlk wr xL 3 (cellsR 1 (fun i _ => Value.int .i64 (g i)) sz).toArray ∧ Below u0.heap.size u0 wr) (fun s12 wr => Z - (intOf s12).toNat)
      case atStart => exact ⟨0, fun _ => 0, Nat.zero_le _, rfl, fun t => LeastV.start, BL.out, BU.out⟩
      case round =>
        clear BL BU
        obtain ⟨q, g, hq, rfl, hleast, hbl, hbu⟩ := hrel
        have LS := Lib.hid hleast
        have BL := Lib.hid hbl
        have BU := Lib.hid hbu
        have C2 := Lib.hid (B2.out.below hbu)
        have C10 := Lib.hid (B10.out.below hbu)
        have CD := Lib.hid (DR.out.below hbu)
        clear hleast hbl hbu
        have c2_0 := C2.out.cell 0
        have c2_1 := C2.out.cell 1
        have c2_2 := C2.out.cell 2
        have c2_3 := C2.out.cell 3
        have c2_z := C2.out.lt
        simp at c2_0 c2_1 c2_2 c2_3
        by_cases hqz : q < Z
        rotate_left
        · obtain rfl : Z = q := by omega
          have d0 : decide ((Z : Int) < (Z : Int)) = false := by simp
          have FIN := Lib.hid (fun t (ht : t < sz) => show g t + 70000 = ((⟨X, Y, fun x y => f.D (y * X + x)⟩ : LD).lev k).row t from LeastV.fin LE.out (by rw [EE.out.1, EE.out.2.1, SZM.out]; exact ht) (by rw [EE.out.1, ← ZZ.out]; exact LS.out t))
          have RBD := Lib.hid (fun t (ht : t < sz) => row_bd (k := k) (t := t) (fun q hq => HD.out q hq) (by rw [EE.out.1, EE.out.2.1, SZM.out]; exact ht))
          have KRc := Lib.hid (KR.out.below BU.out)
          have C10' := Lib.hid C10.out
          go_wp2
          clear LS C2 CD c2_0 c2_1 c2_2 c2_3 c2_z d0
          obtain ⟨wo2, rfl⟩ : ∃ wo2 : World, wo2 = wr := ⟨wr, rfl⟩
          go_loopw [14] (fun s14 wr => ∃ j : Nat, j ≤ sz ∧ s14 = .int .i64 j ∧ Below wo2.heap.size wo2 wr) (fun s14 wr => sz - (intOf s14).toNat)
          case atStart => exact ⟨0, Nat.zero_le _, rfl, Below.refl _ _⟩
          case round =>
            obtain ⟨j, hj, rfl, hbj⟩ := hrel
            have BJ := Lib.hid hbj
            by_cases hjs : j < sz
            rotate_left
            · obtain rfl : sz = j := by omega
              have d0 : decide ((sz : Int) < (sz : Int)) = false := by simp
              obtain ⟨S9, hS9⟩ : ∃ S9 : Nat, 2 ^ (k + 1) = S9 := ⟨_, rfl⟩
              have hS99 : S9 = 2 * S := by rw [← hS9, Nat.pow_succ, SS.out]; omega
              have w9 : IntKind.i64.wrap (2 * (S : Int)) = (S9 : Int) := by
                rw [show 2 * (S : Int) = (S9 : Int) by omega]
                exact IntWalk.i64_in _ (by omega)
              have BF := Lib.hid (BV.out.trans ((BU.out.trans (hbj.mono BU.out.size)).mono BV.out.size))
              clear hbj
              go_wp2
              go_roundw
              case rel =>
                exact ⟨k + 1, by omega, by rw [hS9, hS99]; first | rfl | (push_cast; rfl) | (congr 1; omega), by go_num, BF.out⟩
              case measure => simp [intOf]; omega
            have d0 : decide ((j : Int) < (sz : Int)) = true := decide_eq_true (by omega)
            have hbz := hbj.size
            have l0 := blk_cell (BL.out.below hbj) hjs
            have lz := (BL.out.below hbj).lt
            have t2 := (C10'.out.below hbj).cell 2
            have tz := (C10'.out.below hbj).lt
            simp at t2
            obtain ⟨gK, oK, hKe, hgK, hcK⟩ := (KRc.out.below hbj) (by omega)
            have cK := hcK j hjs 0 (by omega)
            simp only [Nat.mul_one, Nat.add_zero] at cK
            rw [hKe] at t2
            have hf := FIN.out j hjs
            have hb2 := RBD.out j hjs
            obtain ⟨R, hR⟩ : ∃ R, ((⟨X, Y, fun x y => f.D (y * X + x)⟩ : LD).lev k).row j = R := ⟨_, rfl⟩
            obtain ⟨G, hG⟩ : ∃ G, g j = G := ⟨_, rfl⟩
            rw [hR] at cK hf hb2
            rw [hG] at l0 hf
            have w1 : IntKind.i64.wrap R = R := IntWalk.i64_in _ (by omega)
            have g9 : (R != R) = false := by simp
            have i1 : (j : Int) < (sz : Int) := by omega
            have i2 : ¬ ((sz : Int) ≤ (j : Int)) := by omega
            have i0' : (0 : Int) ≤ (j : Int) := by omega
            clear hcK hR hG hbj
            go_upto_region 27 with fail
            have e1 := fun b : BW wr => BW.cell l0 lz b
            have e2 := fun b : BW wr => BW.cell t2 tz b
            have e3 := fun b : BW wr => BW.cell cK hgK b
            clear l0 t2 cK d0
            refine wp_region_quiet_bw (by kernel_rfl) (by kernel_rfl) ?_
            repeat (go_big_quiet_step (fail))
            refine wpQuiet_nil ?_
            intro _ hw'
            obtain ⟨pq, hw''⟩ := hw'
            subst hw''
            clear e1 e2 e3 lz tz hgK
            have BJn := Lib.hid (BJ.out.trans (pq.h.mono hbz))
            generalize pq.W = u5 at *
            clear pq
            go_wp2
            go_roundw
            case rel =>
              exact ⟨j + 1, by omega, by go_num, BJn.out⟩
            case measure => simp [intOf]; omega
        have d0 : decide ((q : Int) < (Z : Int)) = true := decide_eq_true (by omega)
        have c10_0 := C10.out.cell 0
        have c10_1 := C10.out.cell 1
        have c10_2 := C10.out.cell 2
        have c10_z := C10.out.lt
        simp at c10_0 c10_1 c10_2
        obtain ⟨gD, oD, hDA, hgD, hcD⟩ := CD.out (by omega)
        have cD := hcD q hqz 0 (by omega)
        simp only [Nat.mul_one, Nat.add_zero] at cD
        rw [hDA] at c2_3
        have HDA := Lib.hid hDA
        clear hDA
        have hDx := HD.out q (by rw [← ZZ.out]; exact hqz)
        obtain ⟨Dq, hDq⟩ : ∃ x, f.D q = x := ⟨_, rfl⟩
        rw [hDq] at cD hDx
        have DQ := Lib.hid hDq
        have hat : pixN X k Wk q < sz := by
          have h := pix_lt (l := (⟨X, Y, fun x y => f.D (y * X + x)⟩ : LD)) (k := k) (q := q) (by rw [← ZZ.out]; exact hqz)
          rw [EE.out.1, EE.out.2.1, SZM.out] at h
          exact h
        have PX := Lib.hid (show pixN X k Wk q = q / X / S * Wk + q % X / S by unfold pixN; rw [SS.out])
        obtain ⟨at0, hat0⟩ : ∃ x, pixN X k Wk q = x := ⟨_, rfl⟩
        have AT := Lib.hid hat0
        have hat1 : q / X / S * Wk + q % X / S = at0 := by rw [← PX.out]; exact hat0
        rw [hat0] at hat
        clear hat0 hcD hDq
        obtain ⟨A1, hA1⟩ : ∃ x, q / X = x := ⟨_, rfl⟩
        obtain ⟨A2, hA2⟩ : ∃ x, A1 / S = x := ⟨_, rfl⟩
        obtain ⟨M1, hM1⟩ : ∃ x, q % X = x := ⟨_, rfl⟩
        obtain ⟨M2, hM2⟩ : ∃ x, M1 / S = x := ⟨_, rfl⟩
        rw [hA1, hA2, hM1, hM2] at hat1
        have hA1q : A1 ≤ q := by rw [← hA1]; exact Nat.div_le_self _ _
        have nz1 : ¬ (X : Int) = 0 := by omega
        have nz2 : ¬ (S : Int) = 0 := by omega
        have f1 : (q : Int) / (X : Int) = (A1 : Int) := by rw [← hA1]; push_cast; rfl
        have f2 : (q : Int).tdiv (X : Int) = (A1 : Int) := by rw [Int.tdiv_eq_ediv_of_nonneg (by omega)]; exact f1
        have f3 : (A1 : Int) / (S : Int) = (A2 : Int) := by rw [← hA2]; push_cast; rfl
        have f4 : (A1 : Int).tdiv (S : Int) = (A2 : Int) := by rw [Int.tdiv_eq_ediv_of_nonneg (by omega)]; exact f3
        have f5 : (q : Int) % (X : Int) = (M1 : Int) := by rw [← hM1]; push_cast; rfl
        have f6 : (q : Int).tmod (X : Int) = (M1 : Int) := by rw [Int.tmod_eq_emod_of_nonneg (by omega)]; exact f5
        have f7 : (M1 : Int) / (S : Int) = (M2 : Int) := by rw [← hM2]; push_cast; rfl
        have f8 : (M1 : Int).tdiv (S : Int) = (M2 : Int) := by rw [Int.tdiv_eq_ediv_of_nonneg (by omega)]; exact f7
        have hM1q : M1 ≤ q := by rw [← hM1]; exact Nat.mod_le _ _
        have hA2q : A2 ≤ A1 := by rw [← hA2]; exact Nat.div_le_self _ _
        have hM2q : M2 ≤ M1 := by rw [← hM2]; exact Nat.div_le_self _ _
        have hP : (A2 : Int) * (Wk : Int) = ((A2 * Wk : Nat) : Int) := by push_cast; rfl
        obtain ⟨P1, hP1⟩ : ∃ x, A2 * Wk = x := ⟨_, rfl⟩
        rw [hP1] at hP hat1
        have w1 : IntKind.i64.wrap (P1 : Int) = (P1 : Int) := IntWalk.i64_in _ (by omega)
        have w2 : (P1 : Int) + (M2 : Int) = (at0 : Int) := by omega
        have w3 : IntKind.i64.wrap (at0 : Int) = (at0 : Int) := IntWalk.i64_in _ (by omega)
        have w4 : IntKind.i64.wrap (A1 : Int) = (A1 : Int) := IntWalk.i64_in _ (by omega)
        have w5 : IntKind.i64.wrap (A2 : Int) = (A2 : Int) := IntWalk.i64_in _ (by omega)
        clear hA1 hA2 hM1 hM2 hP1
        go_upto_region 20 with fail
        have e2 := fun b : BW wr => BW.cell c2_0 c2_z b
        have e10 := fun b : BW wr => BW.cell c10_0 c10_z b
        clear c2_0 c2_1 c2_2 c2_3 c10_0 c10_1 c10_2 d0
        refine wp_region_quiet_bw (by kernel_rfl) (by kernel_rfl) ?_
        repeat (go_big_quiet_step (fail))
        refine wpQuiet_nil ?_
        intro _ hw'
        obtain ⟨pq, hw''⟩ := hw'
        subst hw''
        clear e2 e10 c2_z c10_z f1 f2 f3 f4 f5 f6 f7 f8 nz1 nz2 hP w1 w2 w3 w4 w5
        have hr9 := BL.out.lt
        have BUn := Lib.hid (BU.out.trans (pq.h.mono BU.out.size))
        have BLn := Lib.hid (BL.out.below pq.h)
        have C2n := Lib.hid (C2.out.below pq.h)
        have cDn := (pq.h.cell (p := ⟨gD, oD + q, none⟩) hgD).trans cD
        have hgDn : gD < pq.W.heap.size := Nat.lt_of_lt_of_le hgD pq.h.size
        clear BL BU C2 C10 CD cD
        have BL := Lib.hid BLn.out
        have BU := Lib.hid BUn.out
        have C2 := Lib.hid C2n.out
        clear BLn BUn C2n
        generalize pq.W = u2 at *
        clear pq
        have hgD2 : gD < u2.heap.size := hgDn
        have d5 : decide ((sz : Int) ≤ (at0 : Int)) = false := decide_eq_false (by omega)
        go_upto_region 23 with fail
        clear d5
        have HS := Lib.hid (show (fun Wo => (HasBlk Wo xL 3 (cellsR 1 (fun i _ => Value.int .i64 (g i)) sz).toArray ∧ HasBlk Wo w.heap.size 29 #[.int .i64 X, .int .i64 Y, .slice p.ac f.nc p.kc, .slice p.ad Z p.kd, .slice p.ai f.ni p.ki, .slice p.a4 f.nt p.kt]) ∧ Wo.cell? ⟨gD, oD + q, none⟩ = some (.int .i64 Dq) ∧ gD < Wo.heap.size) u2.drew from ⟨⟨BL.out.drew, C2.out.drew⟩, cDn, hgD2⟩)
        have BUd := Lib.hid (show Below u0.heap.size u0 u2.drew from BU.out.drew)
        clear BU C2 cDn hgD2 BL
        refine wp_region_E (fun Wo => (HasBlk Wo xL 3 (cellsR 1 (fun i _ => Value.int .i64 (g i)) sz).toArray ∧ HasBlk Wo w.heap.size 29 #[.int .i64 X, .int .i64 Y, .slice p.ac f.nc p.kc, .slice p.ad Z p.kd, .slice p.ai f.ni p.ki, .slice p.a4 f.nt p.kt]) ∧ Wo.cell? ⟨gD, oD + q, none⟩ = some (.int .i64 Dq) ∧ gD < Wo.heap.size) 14 (by kernel_rfl) ?_
        generalize u2.drew = u3 at *
        have j1 : (at0 : Int) < (sz : Int) := by omega
        have j2 : ¬ ((sz : Int) ≤ (at0 : Int)) := by omega
        have j0 : (0 : Int) ≤ (at0 : Int) := by omega
        have j3 : (q : Int) < (Z : Int) := by omega
        have j4 : ¬ ((Z : Int) ≤ (q : Int)) := by omega
        have j5 : (0 : Int) ≤ (q : Int) := by omega
        have w9 : IntKind.i64.wrap (Dq - 70000) = Dq - 70000 := IntWalk.i64_in _ (by omega)
        refine wpAnyE_take (i := 0) (v := .slice (some ⟨xL, 0, none⟩) sz sz) rfl (by kernel_rfl) (fun _ _ _ h => h) (.inl ⟨by kernel_rfl, fun W hW => ?_⟩) HS.out ?_
        · obtain ⟨⟨hWL, hWP⟩, hWc, hWz⟩ := hW
          have q0 := hWP.cell 3
          have qz := hWP.lt
          have l0 := blk_cell hWL hat
          have lz := hWL.lt
          simp at q0
          rw [HDA.out] at q0
          go_simp
        simp only [Act.put, List.setIfInBounds_toArray]
        refine wpAnyE_take (i := 1) (v := .int .i64 at0) rfl (by kernel_rfl) (fun _ _ _ h => h) (.inl ⟨by kernel_rfl, fun W hW => ?_⟩) HS.out ?_
        · obtain ⟨⟨hWL, hWP⟩, hWc, hWz⟩ := hW
          have q0 := hWP.cell 3
          have qz := hWP.lt
          have l0 := blk_cell hWL hat
          have lz := hWL.lt
          simp at q0
          rw [HDA.out] at q0
          go_simp
        simp only [Act.put]
        refine wpAnyE_take (i := 2) (v := .slice (some ⟨xL, 0, none⟩) sz sz) rfl (by kernel_rfl) (fun _ _ _ h => h) (.inl ⟨by kernel_rfl, fun W hW => ?_⟩) HS.out ?_
        · obtain ⟨⟨hWL, hWP⟩, hWc, hWz⟩ := hW
          have q0 := hWP.cell 3
          have qz := hWP.lt
          have l0 := blk_cell hWL hat
          have lz := hWL.lt
          simp at q0
          rw [HDA.out] at q0
          go_simp
        simp only [Act.put]
        refine wpAnyE_take (i := 3) (v := .int .i64 at0) rfl (by kernel_rfl) (fun _ _ _ h => h) (.inl ⟨by kernel_rfl, fun W hW => ?_⟩) HS.out ?_
        · obtain ⟨⟨hWL, hWP⟩, hWc, hWz⟩ := hW
          have q0 := hWP.cell 3
          have qz := hWP.lt
          have l0 := blk_cell hWL hat
          have lz := hWL.lt
          simp at q0
          rw [HDA.out] at q0
          go_simp
        simp only [Act.put]
        refine wpAnyE_take (i := 4) (v := .pointer (some ⟨xL, at0, none⟩)) rfl (by kernel_rfl) (fun _ _ _ h => h) (.inl ⟨by kernel_rfl, fun W hW => ?_⟩) HS.out ?_
        · obtain ⟨⟨hWL, hWP⟩, hWc, hWz⟩ := hW
          have q0 := hWP.cell 3
          have qz := hWP.lt
          have l0 := blk_cell hWL hat
          have lz := hWL.lt
          simp at q0
          rw [HDA.out] at q0
          go_simp
        simp only [Act.put]
        refine wpAnyE_take (i := 5) (v := .int .i64 (g at0)) rfl (by kernel_rfl) (fun _ _ _ h => h) (.inl ⟨by kernel_rfl, fun W hW => ?_⟩) HS.out ?_
        · obtain ⟨⟨hWL, hWP⟩, hWc, hWz⟩ := hW
          have q0 := hWP.cell 3
          have qz := hWP.lt
          have l0 := blk_cell hWL hat
          have lz := hWL.lt
          simp at q0
          rw [HDA.out] at q0
          go_simp
        simp only [Act.put]
        refine wpAnyE_take (i := 6) (v := .pointer (some ⟨w.heap.size, 3, none⟩)) rfl (by kernel_rfl) (fun _ _ _ h => h) (.inl ⟨by kernel_rfl, fun W hW => ?_⟩) HS.out ?_
        · obtain ⟨⟨hWL, hWP⟩, hWc, hWz⟩ := hW
          have q0 := hWP.cell 3
          have qz := hWP.lt
          have l0 := blk_cell hWL hat
          have lz := hWL.lt
          simp at q0
          rw [HDA.out] at q0
          go_simp
        simp only [Act.put]
        refine wpAnyE_take (i := 7) (v := .slice (some ⟨gD, oD, none⟩) Z p.kd) rfl (by kernel_rfl) (fun _ _ _ h => h) (.inl ⟨by kernel_rfl, fun W hW => ?_⟩) HS.out ?_
        · obtain ⟨⟨hWL, hWP⟩, hWc, hWz⟩ := hW
          have q0 := hWP.cell 3
          have qz := hWP.lt
          have l0 := blk_cell hWL hat
          have lz := hWL.lt
          simp at q0
          rw [HDA.out] at q0
          go_simp
        simp only [Act.put]
        refine wpAnyE_take (i := 8) (v := .int .i64 q) rfl (by kernel_rfl) (fun _ _ _ h => h) (.inl ⟨by kernel_rfl, fun W hW => ?_⟩) HS.out ?_
        · obtain ⟨⟨hWL, hWP⟩, hWc, hWz⟩ := hW
          have q0 := hWP.cell 3
          have qz := hWP.lt
          have l0 := blk_cell hWL hat
          have lz := hWL.lt
          simp at q0
          rw [HDA.out] at q0
          go_simp
        simp only [Act.put]
        refine wpAnyE_take (i := 9) (v := .pointer (some ⟨gD, (oD + q), none⟩)) rfl (by kernel_rfl) (fun _ _ _ h => h) (.inl ⟨by kernel_rfl, fun W hW => ?_⟩) HS.out ?_
        · obtain ⟨⟨hWL, hWP⟩, hWc, hWz⟩ := hW
          have q0 := hWP.cell 3
          have qz := hWP.lt
          have l0 := blk_cell hWL hat
          have lz := hWL.lt
          simp at q0
          rw [HDA.out] at q0
          go_simp
        simp only [Act.put]
        refine wpAnyE_take (i := 10) (v := .int .i64 Dq) rfl (by kernel_rfl) (fun _ _ _ h => h) (.inl ⟨by kernel_rfl, fun W hW => ?_⟩) HS.out ?_
        · obtain ⟨⟨hWL, hWP⟩, hWc, hWz⟩ := hW
          have q0 := hWP.cell 3
          have qz := hWP.lt
          have l0 := blk_cell hWL hat
          have lz := hWL.lt
          simp at q0
          rw [HDA.out] at q0
          go_simp
        simp only [Act.put]
        refine wpAnyE_take (i := 11) (v := .int .i64 (Dq - 70000)) rfl (by kernel_rfl) (fun _ _ _ h => h) (.inl ⟨by kernel_rfl, fun W hW => ?_⟩) HS.out ?_
        · obtain ⟨⟨hWL, hWP⟩, hWc, hWz⟩ := hW
          have q0 := hWP.cell 3
          have qz := hWP.lt
          have l0 := blk_cell hWL hat
          have lz := hWL.lt
          simp at q0
          rw [HDA.out] at q0
          go_simp
        simp only [Act.put]
        refine wpAnyE_take (i := 12) (v := .int .i64 (min (g at0) (Dq - 70000))) rfl (by kernel_rfl) (fun _ _ _ h => h) (.inl ⟨by kernel_rfl, fun W hW => ?_⟩) HS.out ?_
        · obtain ⟨⟨hWL, hWP⟩, hWc, hWz⟩ := hW
          have q0 := hWP.cell 3
          have qz := hWP.lt
          have l0 := blk_cell hWL hat
          have lz := hWL.lt
          simp at q0
          rw [HDA.out] at q0
          go_simp
        simp only [Act.put]
        refine wpAnyE_take (i := 13) (v := .pointer (some ⟨xL, at0, none⟩)) rfl (by kernel_rfl) (fun _ _ _ h => h) (.inl ⟨by kernel_rfl, fun W hW => ?_⟩) HS.out ?_
        · obtain ⟨⟨hWL, hWP⟩, hWc, hWz⟩ := hW
          have q0 := hWP.cell 3
          have qz := hWP.lt
          have l0 := blk_cell hWL hat
          have lz := hWL.lt
          simp at q0
          rw [HDA.out] at q0
          go_simp
        simp only [Act.put]
        refine wpAnyE_step (i := 14) rfl (by kernel_rfl) (fun KQ HK => ?_)
        have l0 := blk_cell HS.out.1.1 hat
        have lf := HS.out.1.1.frozen at0
        have lz := HS.out.1.1.lt
        have BLs := Lib.hid HS.out.1.1
        go_wp2
        have BLn := Lib.hid (blk_put (t := at0) BLs.out (min (g at0) (Dq - 70000)))
        have BUn := Lib.hid (Below.setCell (p := ⟨xL, at0, none⟩) BUd.out LL.out (.int .i64 (min (g at0) (Dq - 70000))))
        clear l0 lf lz HS
        refine HK _ _ (fun h => absurd rfl h) ?_
        clear HK
        generalize u3.setCell ⟨xL, at0, none⟩ (.int .i64 (min (g at0) (Dq - 70000))) = u4 at *
        refine wpAnyE_done (by kernel_rfl) ?_
        clear j0 j1 j2 j3 j4 j5 w9
        go_wp2
        go_roundw
        case rel =>
          exact ⟨q + 1, upd g at0 (min (g at0) (Dq - 70000)), by omega, by go_num, fun t => by
            have h := LeastV.step LS.out t
            rw [AT.out, DQ.out] at h
            exact h, BLn.out, BUn.out⟩
        case measure => simp [intOf]; omega
theorem pyramidLeast_arg (v0 v1 : Value) (w : World) (a0 : Arg Try.prog w 29 v0) (a1 : Arg Try.prog w 53 v1) :
    Calls Try.prog 10 #[v0, v1] w fun e w' => e = .returned (.bool true) ∧ Below w.heap.size w w' := by
  obtain ⟨p, f, rfl, hok, hbd⟩ := arg_frame a0
  obtain ⟨r, rfl⟩ := arg_rect a1
  exact pyramidLeast_walk p f r w hok
end Go.Proofs.Ytibeoeooajelgaa
