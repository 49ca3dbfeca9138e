/- pyramid: the reference's next. -/
import Derived.Test.YtibeoeooajelgaaY7
namespace Go.Proofs.Ytibeoeooajelgaa
open Go.RowKit
set_option linter.unusedVariables false
/-- The least of the first k of four places. -/
def LD.acc (l : LD) (x y : Nat) : Nat → Int
  | 0 => l.at (2 * x) (2 * y)
  | k + 1 => min (l.acc x y k) (l.at (2 * x + k % 2) (2 * y + k / 2))
theorem LD.at_le {l : LD} (h : l.Le) (x y : Nat) : l.at x y ≤ 66560 := by
  by_cases hxy : x < l.W ∧ y < l.H
  · rw [LD.at_in hxy.1 hxy.2]
    exact h x y hxy.1 hxy.2
  · rw [LD.at_out hxy]
    omega
theorem LD.acc_le {l : LD} (h : l.Le) (x y : Nat) : ∀ k, l.acc x y k ≤ 66560
  | 0 => LD.at_le h _ _
  | k + 1 => by
    have := LD.acc_le h x y k
    show min (l.acc x y k) _ ≤ _
    omega
theorem LD.acc_four {l : LD} (x y : Nat) : l.acc x y 4 = l.nxt.f x y := by
  show min (min (min (min (l.at (2 * x) (2 * y)) (l.at (2 * x) (2 * y))) (l.at (2 * x + 1) (2 * y))) (l.at (2 * x) (2 * y + 1))) (l.at (2 * x + 1) (2 * y + 1)) = _
  rw [Int.min_self]
  rfl

set_option maxRecDepth 100000 in
set_option maxHeartbeats 16000000 in
theorem refnext_any (l : LD) (A : Option Addr) (c : Nat) (w : World) (h1 : 1 ≤ l.W) (h2 : 1 ≤ l.H) (h3 : l.W ≤ 64) (h4 : l.H ≤ 64) (hle : l.Le) (hA : Row w A (l.W * l.H) 1 (lrow l)) :
    Calls Try.prog 82 #[.agg #[.int .i64 l.W, .int .i64 l.H, .slice A (l.W * l.H) c]] w fun e w' => (∃ Xa cx, e = .returned (.agg #[.int .i64 l.nxt.W, .int .i64 l.nxt.H, .slice Xa (l.nxt.W * l.nxt.H) cx]) ∧ w'.ownsRow w.heap.size 3 1 (.slice Xa (l.nxt.W * l.nxt.H) cx) (l.nxt.W * l.nxt.H) (cellsR 1 (lrow l.nxt) (l.nxt.W * l.nxt.H))) ∧ Below w.heap.size w w' := by
  obtain ⟨j0', hj0, hy0, hy1, hy2⟩ := info_parts int_info
  obtain ⟨j0, hj00⟩ : ∃ j0, j0 = j0' := ⟨_, rfl⟩
  rw [← hj00] at hj0 hy0 hy1 hy2
  clear hj00
  have HA := Lib.hid hA
  have LE := Lib.hid hle
  have LM0 := Lib.hid (fun x y => LD.acc_le hle x y)
  clear hA hle
  obtain ⟨Z, hZ⟩ : ∃ Z, l.W * l.H = Z := ⟨_, rfl⟩
  have hz64 : Z ≤ 4096 := by rw [← hZ]; exact Nat.mul_le_mul h3 h4
  rw [hZ] at HA ⊢
  have ZZ := Lib.hid hZ
  clear hZ
  obtain ⟨W, hW⟩ : ∃ W, l.W = W := ⟨_, rfl⟩
  obtain ⟨H, hH⟩ : ∃ H, l.H = H := ⟨_, rfl⟩
  rw [hW] at h1 h3 ⊢
  rw [hH] at h2 h4 ⊢
  have HW := Lib.hid hW
  have HH := Lib.hid hH
  clear hW hH
  obtain ⟨X2, hX2⟩ : ∃ X2 : Nat, (W + 1) / 2 = X2 := ⟨_, rfl⟩
  obtain ⟨Y2, hY2⟩ : ∃ Y2 : Nat, (H + 1) / 2 = Y2 := ⟨_, rfl⟩
  have NX := Lib.hid (show l.nxt.W = X2 by show (l.W + 1) / 2 = X2; rw [HW.out]; exact hX2)
  have NY := Lib.hid (show l.nxt.H = Y2 by show (l.H + 1) / 2 = Y2; rw [HH.out]; exact hY2)
  have DV := Lib.hid (And.intro hX2 hY2)
  have dv1 : ((W : Int) + 1) / 2 = (X2 : Int) := by omega
  have dv2 : ((H : Int) + 1) / 2 = (Y2 : Int) := by omega
  have dv3 : ((W : Int) + 1).tdiv 2 = (X2 : Int) := by rw [Int.tdiv_eq_ediv_of_nonneg (by omega)]; exact dv1
  have dv4 : ((H : Int) + 1).tdiv 2 = (Y2 : Int) := by rw [Int.tdiv_eq_ediv_of_nonneg (by omega)]; exact dv2
  have hx1 : 1 ≤ X2 := by omega
  have hx2 : X2 ≤ 64 := by omega
  have hy3 : 1 ≤ Y2 := by omega
  have hy4 : Y2 ≤ 64 := by omega
  clear hX2 hY2
  have B0 := Lib.hid (show Below w.heap.size w (((w.alloc (.cells #[.int .i64 W, .int .i64 H, .slice A Z c] 74)).alloc (.cells #[.int .i64 0, .int .i64 0, .slice none 0 0] 74)).alloc (.cells #[.int .i64 X2, .int .i64 Y2, .slice none 0 0] 74)) by
    repeat' (first | exact Below.refl _ _ | refine Below.alloc ?_ (by first | omega | (simp; done) | (simp; omega)) _))
  have A1 := Lib.hid (show HasBlk (((w.alloc (.cells #[.int .i64 W, .int .i64 H, .slice A Z c] 74)).alloc (.cells #[.int .i64 0, .int .i64 0, .slice none 0 0] 74)).alloc (.cells #[.int .i64 X2, .int .i64 Y2, .slice none 0 0] 74)) w.heap.size 74 #[.int .i64 W, .int .i64 H, .slice A Z c] from ((hasBlk_new w 74 #[.int .i64 W, .int .i64 H, .slice A Z c]).alloc _).alloc _)
  have A2 := Lib.hid (show HasBlk (((w.alloc (.cells #[.int .i64 W, .int .i64 H, .slice A Z c] 74)).alloc (.cells #[.int .i64 0, .int .i64 0, .slice none 0 0] 74)).alloc (.cells #[.int .i64 X2, .int .i64 Y2, .slice none 0 0] 74)) (w.heap.size + 1) 74 #[.int .i64 0, .int .i64 0, .slice none 0 0] by simpa using (hasBlk_new (w.alloc (.cells #[.int .i64 W, .int .i64 H, .slice A Z c] 74)) 74 #[.int .i64 0, .int .i64 0, .slice none 0 0]).alloc (.cells #[.int .i64 X2, .int .i64 Y2, .slice none 0 0] 74))
  have A3 := Lib.hid (show HasBlk (((w.alloc (.cells #[.int .i64 W, .int .i64 H, .slice A Z c] 74)).alloc (.cells #[.int .i64 0, .int .i64 0, .slice none 0 0] 74)).alloc (.cells #[.int .i64 X2, .int .i64 Y2, .slice none 0 0] 74)) (w.heap.size + 1 + 1) 74 #[.int .i64 X2, .int .i64 Y2, .slice none 0 0] by simpa using hasBlk_new ((w.alloc (.cells #[.int .i64 W, .int .i64 H, .slice A Z c] 74)).alloc (.cells #[.int .i64 0, .int .i64 0, .slice none 0 0] 74)) 74 #[.int .i64 X2, .int .i64 Y2, .slice none 0 0])
  go_enter Try.func82, Try.ntmps82
  go_wp2
  clear dv1 dv2 dv3 dv4
  generalize (((w.alloc (.cells #[.int .i64 W, .int .i64 H, .slice A Z c] 74)).alloc (.cells #[.int .i64 0, .int .i64 0, .slice none 0 0] 74)).alloc (.cells #[.int .i64 X2, .int .i64 Y2, .slice none 0 0] 74)) = v1 at *
  go_loopw [4] (fun t wr => ∃ y : Nat, y ≤ Y2 ∧ t = .int .i64 y ∧ ∃ (cx : Nat) (Xa : Option Addr), wr.ownsRow (w.heap.size + 1 + 1 + 1) 3 1 (.slice Xa (y * X2) cx) (y * X2) (cellsR 1 (lrow l.nxt) (y * X2)) ∧ HasBlk wr (w.heap.size + 1 + 1) 74 #[.int .i64 X2, .int .i64 Y2, .slice Xa (y * X2) cx] ∧ HasBlk wr w.heap.size 74 #[.int .i64 W, .int .i64 H, .slice A Z c] ∧ HasBlk wr (w.heap.size + 1) 74 #[.int .i64 0, .int .i64 0, .slice none 0 0] ∧ Below w.heap.size w wr) (fun t wr => Y2 - (intOf t).toNat)
  case atStart => exact ⟨0, Nat.zero_le _, rfl, 0, none, by rw [Nat.zero_mul]; exact own_nil _ _ _ _, by rw [Nat.zero_mul]; exact A3.out, A1.out, A2.out, B0.out⟩
  case round =>
    clear A1 A2 A3 B0
    obtain ⟨y, hy, rfl, cx, Xa, hown, hS3, hS1, hS2, hbel⟩ := hrel
    obtain ⟨wo, rfl⟩ : ∃ wo : World, wo = wr := ⟨wr, rfl⟩
    have XO := Lib.hid hown
    have S3 := Lib.hid hS3
    have S1 := Lib.hid hS1
    have S2 := Lib.hid hS2
    have BB := Lib.hid hbel
    have s1 := hS3.cell 1
    have s0 := hS3.cell 0
    have s2 := hS3.cell 2
    have sz := hS3.lt
    simp at s0 s1 s2
    clear hown hS3 hS1 hS2 hbel
    by_cases hyy : y < Y2
    rotate_left
    · obtain rfl : Y2 = y := by omega
      have d0 : decide ((Y2 : Int) < (Y2 : Int)) = false := by simp
      have t0 := S2.out.cell 0
      have t1 := S2.out.cell 1
      have t2 := S2.out.cell 2
      have tf0 := S2.out.frozen 0
      have tf1 := S2.out.frozen 1
      have tf2 := S2.out.frozen 2
      have tz := S2.out.lt
      simp at t0 t1 t2
      go_wp2
      have S2b := Lib.hid (show HasBlk (((wo.setCell ⟨(w.heap.size + 1), 0, none⟩ (.int .i64 X2)).setCell ⟨(w.heap.size + 1), 1, none⟩ (.int .i64 Y2)).setCell ⟨(w.heap.size + 1), 2, none⟩ (.slice Xa (Y2 * X2) cx)) (w.heap.size + 1) 74 #[.int .i64 X2, .int .i64 Y2, .slice Xa (Y2 * X2) cx] by simpa using ((S2.out.set 0 (.int .i64 X2)).set 1 (.int .i64 Y2)).set 2 (.slice Xa (Y2 * X2) cx))
      have XOb := Lib.hid (show World.ownsRow (((wo.setCell ⟨(w.heap.size + 1), 0, none⟩ (.int .i64 X2)).setCell ⟨(w.heap.size + 1), 1, none⟩ (.int .i64 Y2)).setCell ⟨(w.heap.size + 1), 2, none⟩ (.slice Xa (Y2 * X2) cx)) _ _ _ _ _ _ from (own_lset (j := 2) (own_lset (j := 1) (own_lset (j := 0) XO.out (show (w.heap.size + 1) < (w.heap.size + 1 + 1 + 1) by omega) (.int .i64 X2)) (show (w.heap.size + 1) < (w.heap.size + 1 + 1 + 1) by omega) (.int .i64 Y2)) (show (w.heap.size + 1) < (w.heap.size + 1 + 1 + 1) by omega) (.slice Xa (Y2 * X2) cx)))
      have BBb := Lib.hid (show Below w.heap.size w (((wo.setCell ⟨(w.heap.size + 1), 0, none⟩ (.int .i64 X2)).setCell ⟨(w.heap.size + 1), 1, none⟩ (.int .i64 Y2)).setCell ⟨(w.heap.size + 1), 2, none⟩ (.slice Xa (Y2 * X2) cx)) from (Below.setCell (p := ⟨(w.heap.size + 1), 2, none⟩) (Below.setCell (p := ⟨(w.heap.size + 1), 1, none⟩) (Below.setCell (p := ⟨(w.heap.size + 1), 0, none⟩) BB.out (show w.heap.size ≤ (w.heap.size + 1) by omega) (.int .i64 X2)) (show w.heap.size ≤ (w.heap.size + 1) by omega) (.int .i64 Y2)) (show w.heap.size ≤ (w.heap.size + 1) by omega) (.slice Xa (Y2 * X2) cx)))
      clear t0 t1 t2 tf0 tf1 tf2 tz s0 s1 s2 sz XO S1 S2 S3 BB
      generalize (((wo.setCell ⟨(w.heap.size + 1), 0, none⟩ (.int .i64 X2)).setCell ⟨(w.heap.size + 1), 1, none⟩ (.int .i64 Y2)).setCell ⟨(w.heap.size + 1), 2, none⟩ (.slice Xa (Y2 * X2) cx)) = vz at *
      have f0 := S2b.out.cell 0
      have f1 := S2b.out.cell 1
      have f2 := S2b.out.cell 2
      simp at f0 f1 f2
      refine bodyPost_ret (v := .agg #[.int .i64 X2, .int .i64 Y2, .slice Xa (Y2 * X2) cx]) (by simp [results, Try.results82, go_sem, *]) rfl ⟨⟨Xa, cx, ?_, ?_⟩, BBb.out⟩
      · rw [NX.out, NY.out, Nat.mul_comm X2 Y2]
      · rw [NX.out, NY.out, Nat.mul_comm X2 Y2]
        exact own_base XOb.out (by omega)
    have d0 : decide ((y : Int) < (Y2 : Int)) = true := decide_eq_true (by omega)
    go_wp2
    clear s0 s1 s2 sz
    go_loopw [5] (fun t wr => ∃ x : Nat, x ≤ X2 ∧ t = .int .i64 x ∧ ∃ (cx : Nat) (Xa : Option Addr), wr.ownsRow (w.heap.size + 1 + 1 + 1) 3 1 (.slice Xa (y * X2 + x) cx) (y * X2 + x) (cellsR 1 (lrow l.nxt) (y * X2 + x)) ∧ HasBlk wr (w.heap.size + 1 + 1) 74 #[.int .i64 X2, .int .i64 Y2, .slice Xa (y * X2 + x) cx] ∧ HasBlk wr w.heap.size 74 #[.int .i64 W, .int .i64 H, .slice A Z c] ∧ HasBlk wr (w.heap.size + 1) 74 #[.int .i64 0, .int .i64 0, .slice none 0 0] ∧ Below w.heap.size w wr) (fun t wr => X2 - (intOf t).toNat)
    case atStart => exact ⟨0, Nat.zero_le _, rfl, cx, Xa, XO.out, S3.out, S1.out, S2.out, BB.out⟩
    case round =>
      clear XO S3 S1 S2 BB
      obtain ⟨x, hx, rfl, cx, Xa, hown, hS3, hS1, hS2, hbel⟩ := hrel
      obtain ⟨nn, hnn⟩ : ∃ nn, y * X2 + x = nn := ⟨_, rfl⟩
      rw [hnn] at hown hS3
      have hn64 : nn ≤ 5000 := by have := Nat.mul_le_mul hy4 hx2; have := Nat.mul_le_mul_right X2 hy; omega
      have HNN := Lib.hid hnn
      clear hnn
      obtain ⟨wi, rfl⟩ : ∃ wi : World, wi = wr := ⟨wr, rfl⟩
      have XO := Lib.hid hown
      have S3 := Lib.hid hS3
      have S1 := Lib.hid hS1
      have S2 := Lib.hid hS2
      have BB := Lib.hid hbel
      have s1 := hS3.cell 1
      have s0 := hS3.cell 0
      have s2 := hS3.cell 2
      have sz := hS3.lt
      have a0 := hS1.cell 0
      have a1 := hS1.cell 1
      have a2 := hS1.cell 2
      have az := hS1.lt
      simp at s0 s1 s2 a0 a1 a2
      clear hown hS3 hS1 hS2 hbel
      by_cases hxx : x < X2
      rotate_left
      · obtain rfl : X2 = x := by omega
        have e0 : decide ((X2 : Int) < (X2 : Int)) = false := by simp
        go_wp2
        go_roundw
        case rel => exact ⟨y + 1, by omega, by go_num, cx, Xa, by rw [Nat.succ_mul, HNN.out]; exact XO.out, by rw [Nat.succ_mul, HNN.out]; exact S3.out, S1.out, S2.out, BB.out⟩
        case measure => simp [intOf]; omega
      have e0 : decide ((x : Int) < (X2 : Int)) = true := decide_eq_true (by omega)
      obtain ⟨g, o, hg, hglt, hc⟩ := HA.out.below BB.out (by have := Nat.mul_le_mul h1 h2; rw [← ZZ.out, HW.out, HH.out]; omega)
      subst hg
      have hdv := DV.out
      have CE := Lib.hid (fun (a b : Nat) (ha : a < W) (hb : b < H) => (show wi.cell? ⟨g, o + (b * W + a), none⟩ = some (.int .i64 (l.f a b)) ∧ b * W + a < Z by
        have k1 := LD.row_lt (l := l) (x := a) (y := b) (by rw [HW.out]; exact ha) (by rw [HH.out]; exact hb)
        have k2 := LD.row_at (l := l) (x := a) (y := b) (by rw [HW.out]; exact ha)
        rw [HW.out] at k1 k2
        have kz := ZZ.out
        rw [HW.out] at kz
        rw [kz] at k1
        have k3 := hc _ k1 0 (by omega)
        simp only [Nat.mul_one, Nat.add_zero] at k3
        exact ⟨by rw [k3]; show some (Value.int .i64 (l.row _)) = _; rw [k2], k1⟩))
      have hzp := Nat.mul_le_mul h1 h2
      clear hc
      have hxW : 2 * x < W := by omega
      have hyH : 2 * y < H := by omega
      obtain ⟨c00, i00⟩ := CE.out (2 * x) (2 * y) hxW hyH
      obtain ⟨v00, hv⟩ : ∃ v00, l.f (2 * x) (2 * y) = v00 := ⟨_, rfl⟩
      rw [hv] at c00
      have V0 := Lib.hid (show l.acc x y 1 = v00 by
        show min (l.at (2 * x) (2 * y)) (l.at (2 * x) (2 * y)) = v00
        rw [Int.min_self, LD.at_in (by rw [HW.out]; exact hxW) (by rw [HH.out]; exact hyH), hv])
      obtain ⟨Q, hQ⟩ : ∃ Q, 2 * y * W = Q := ⟨_, rfl⟩
      rw [hQ] at c00 i00
      have wq : IntKind.i64.wrap (2 * (y : Int) * (W : Int)) = (Q : Int) := by
        rw [show 2 * (y : Int) * (W : Int) = ((2 * y * W : Nat) : Int) by push_cast; rfl, hQ]
        exact IntWalk.i64_in _ (by omega)
      have i1 : (Q : Int) + 2 * (x : Int) < (Z : Int) := by omega
      have i0 : (0 : Int) ≤ (Q : Int) + 2 * (x : Int) := by omega
      have tn : ((Q : Int) + 2 * (x : Int)).toNat = Q + 2 * x := by omega
      clear hv hQ hdv
      go_wp2
      clear c00 i00 wq i1 i0 tn
      go_loopw [6, 7] (fun m i wr => ∃ (k : Nat) (mv : Int), 1 ≤ k ∧ k ≤ 4 ∧ i = .int .i64 k ∧ m = .int .i64 mv ∧ l.acc x y k = mv ∧ wr = wi) (fun m i wr => 4 - (intOf i).toNat)
      case atStart => exact ⟨1, v00, by omega, by omega, rfl, rfl, V0.out, rfl⟩
      case round =>
        obtain ⟨k, mv, hk1, hk4, rfl, rfl, hmv, hwr⟩ := hrel
        obtain rfl := hwr.symm
        clear hwr
        have MV := Lib.hid hmv
        clear hmv V0
        by_cases hkk : k < 4
        · have d4 : decide ((k : Int) < 4) = true := decide_eq_true (by omega)
          have f1 : (k : Int) % 2 = ((k % 2 : Nat) : Int) := by push_cast; rfl
          have f2 : (k : Int) / 2 = ((k / 2 : Nat) : Int) := by push_cast; rfl
          have f3 : (k : Int).tmod 2 = ((k % 2 : Nat) : Int) := by rw [Int.tmod_eq_emod_of_nonneg (by omega)]; exact f1
          have f4 : (k : Int).tdiv 2 = ((k / 2 : Nat) : Int) := by rw [Int.tdiv_eq_ediv_of_nonneg (by omega)]; exact f2
          obtain ⟨q, hq⟩ : ∃ q, k % 2 = q := ⟨_, rfl⟩
          obtain ⟨dd, hdd⟩ : ∃ dd, k / 2 = dd := ⟨_, rfl⟩
          rw [hq] at f1 f3
          rw [hdd] at f2 f4
          have hq1 : q ≤ 1 := by omega
          have hq2 : dd ≤ 1 := by omega
          have QQ := Lib.hid (And.intro hq hdd)
          clear hq hdd
          go_upto_region 13 with fail
          clear f1 f2 f3 f4 d4
          obtain ⟨a, ha⟩ : ∃ a : Nat, 2 * (x : Int) + (q : Int) = a := ⟨2 * x + q, by push_cast; rfl⟩
          obtain ⟨b, hb⟩ : ∃ b : Nat, 2 * (y : Int) + (dd : Int) = b := ⟨2 * y + dd, by push_cast; rfl⟩
          rw [ha, hb]
          have AC := Lib.hid (show l.acc x y (k + 1) = min mv (l.at a b) by
            show min (l.acc x y k) (l.at (2 * x + k % 2) (2 * y + k / 2)) = _
            rw [MV.out, QQ.out.1, QQ.out.2, show 2 * x + q = a by omega, show 2 * y + dd = b by omega])
          have ab1 : a ≤ 200 := by omega
          have ab2 : b ≤ 200 := by omega
          clear ha hb
          by_cases haW : a < W
          rotate_left
          · have d5 : decide ((a : Int) < (W : Int)) = false := decide_eq_false (by omega)
            have HN := Lib.hid haW
            clear haW
            go_wp2
            go_roundw
            case rel => exact ⟨k + 1, mv, by omega, by omega, by go_num, rfl, by rw [AC.out, LD.at_out (by rw [HW.out, HH.out]; have := HN.out; omega)]; have := LM0.out x y k; rw [MV.out] at this; omega, by first | rfl | trivial⟩
            case measure => simp [intOf]; omega
          have d5 : decide ((a : Int) < (W : Int)) = true := decide_eq_true (by omega)
          by_cases hbH : b < H
          rotate_left
          · have d6 : decide ((b : Int) < (H : Int)) = false := decide_eq_false (by omega)
            have HN := Lib.hid hbH
            clear hbH
            go_wp2
            go_roundw
            case rel => exact ⟨k + 1, mv, by omega, by omega, by go_num, rfl, by rw [AC.out, LD.at_out (by rw [HW.out, HH.out]; have := HN.out; omega)]; have := LM0.out x y k; rw [MV.out] at this; omega, by first | rfl | trivial⟩
            case measure => simp [intOf]; omega
          have d6 : decide ((b : Int) < (H : Int)) = true := decide_eq_true (by omega)
          obtain ⟨c1, i1⟩ := CE.out a b haW hbH
          obtain ⟨v, hv⟩ : ∃ v, l.f a b = v := ⟨_, rfl⟩
          rw [hv] at c1
          have AV := Lib.hid (show l.at a b = v by rw [LD.at_in (by rw [HW.out]; exact haW) (by rw [HH.out]; exact hbH), hv])
          obtain ⟨Q2, hQ⟩ : ∃ Q2, b * W = Q2 := ⟨_, rfl⟩
          rw [hQ] at c1 i1
          have wq : IntKind.i64.wrap ((b : Int) * (W : Int)) = (Q2 : Int) := by
            rw [← Int.natCast_mul, hQ]
            exact IntWalk.i64_in _ (by omega)
          have j1 : (Q2 : Int) + (a : Int) < (Z : Int) := by omega
          have j0 : (0 : Int) ≤ (Q2 : Int) + (a : Int) := by omega
          have tn : ((Q2 : Int) + (a : Int)).toNat = Q2 + a := by omega
          clear hv hQ
          go_wp2
          go_roundw
          case rel => exact ⟨k + 1, min mv v, by omega, by omega, by go_num, rfl, by rw [AC.out, AV.out], by first | rfl | trivial⟩
          case measure => simp [intOf]; omega
        · obtain rfl : k = 4 := by omega
          have MR := Lib.hid (show l.nxt.row nn = mv by
            rw [← HNN.out, ← NX.out, LD.row_at (by rw [NX.out]; exact hxx), ← LD.acc_four]
            exact MV.out)
          have hnew : (wi.alloc (.cells #[.int .i64 mv] 3)).heap[wi.heap.size]? = some (.cells #[.int .i64 mv] 3 (0, 0)) := heap_alloc_new _ _
          clear a0 a1 a2 az
          go_wp2_with (at_builtin; refine wpList_append_lies _ rfl (.tmp 80) (.tmp 82) 27 rfl (w.heap.size + 1 + 1 + 1) 3 j0 _ 1 8 Try.underlying27 hj0 hy0 hy1 hy2 rfl (by omega) (.slice Xa nn cx) (nn) (cellsR 1 (lrow l.nxt) nn) rfl (XO.out.alloc _) ⟨wi.heap.size, 0, none⟩ 1 1 [.int .i64 mv] (by rfl) rfl (World.news_of_block (cs := #[.int .i64 mv]) (t := 3) (fr := (0, 0)) hnew) (by simp [Value.oneCell']) (by omega) (by unfold maxLen; omega) (by omega) (by first | omega | (simp; done) | (simp; omega)) (wi.heap.size + 1) (by first | omega | (simp; done) | (simp; omega)) ?_; intro g' cap w7 hown7 hgrow7 hat7 hlt7; have hT3 := (S3.out.alloc (.cells #[.int .i64 mv] 3)).grown hgrow7 (own_low XO.out (show (w.heap.size + 1 + 1) < (w.heap.size + 1 + 1 + 1) by omega)); have u0 := hT3.cell 0; have u1 := hT3.cell 1; have u2 := hT3.cell 2; have uf := hT3.frozen 2; have uz := hT3.lt; simp at u0 u1 u2)
          have S3b := Lib.hid (show HasBlk (w7.setCell ⟨(w.heap.size + 1 + 1), 2, none⟩ (.slice (some ⟨g', 0, none⟩) (nn + 1) cap)) (w.heap.size + 1 + 1) 74 #[.int .i64 X2, .int .i64 Y2, (.slice (some ⟨g', 0, none⟩) (nn + 1) cap)] by simpa using hT3.set 2 (.slice (some ⟨g', 0, none⟩) (nn + 1) cap))
          have S1b := Lib.hid (((S1.out.alloc (.cells #[.int .i64 mv] 3)).grown hgrow7 (own_low XO.out (show w.heap.size < (w.heap.size + 1 + 1 + 1) by omega))).far (p := ⟨(w.heap.size + 1 + 1), 2, none⟩) (by simp; omega) (.slice (some ⟨g', 0, none⟩) (nn + 1) cap))
          have S2b := Lib.hid (((S2.out.alloc (.cells #[.int .i64 mv] 3)).grown hgrow7 (own_low XO.out (show (w.heap.size + 1) < (w.heap.size + 1 + 1 + 1) by omega))).far (p := ⟨(w.heap.size + 1 + 1), 2, none⟩) (by simp) (.slice (some ⟨g', 0, none⟩) (nn + 1) cap))
          have XOb := Lib.hid (own_lset (g := (w.heap.size + 1 + 1)) (j := 2) hown7 (show (w.heap.size + 1 + 1) < (w.heap.size + 1 + 1 + 1) by omega) (.slice (some ⟨g', 0, none⟩) (nn + 1) cap))
          have BBb := Lib.hid (Below.setCell (p := ⟨(w.heap.size + 1 + 1), 2, none⟩) (below_grown (v := .slice Xa nn cx) (BB.out.alloc BB.out.size (.cells #[.int .i64 mv] 3)) hgrow7 (XO.out.alloc _) (by omega) (by first | omega | (simp; done) | (simp; omega))) (show w.heap.size ≤ (w.heap.size + 1 + 1) by omega) (.slice (some ⟨g', 0, none⟩) (nn + 1) cap))
          clear u0 u1 u2 uf uz hT3 hnew hown7 hgrow7 hat7 hlt7 XO S1 S2 S3 BB s0 s1 s2 sz
          generalize (w7.setCell ⟨(w.heap.size + 1 + 1), 2, none⟩ (.slice (some ⟨g', 0, none⟩) (nn + 1) cap)) = vz at *
          go_roundw
          case rel =>
            have e9 : y * X2 + (x + 1) = nn + 1 := by rw [← HNN.out]; rfl
            refine ⟨x + 1, by omega, by go_num, cap, some ⟨g', 0, none⟩, ?_, ?_, S1b.out, S2b.out, BBb.out⟩
            · rw [e9, show cellsR 1 (lrow l.nxt) (nn + 1) = cellsR 1 (lrow l.nxt) nn ++ [.int .i64 mv] by rw [cellsR_succ, ← MR.out]; rfl]
              exact XOb.out
            · rw [e9]
              exact S3b.out
          case measure => simp [intOf]; omega
end Go.Proofs.Ytibeoeooajelgaa
