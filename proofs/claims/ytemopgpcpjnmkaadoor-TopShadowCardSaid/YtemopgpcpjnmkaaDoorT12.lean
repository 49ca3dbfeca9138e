/- top: corners: in view, on the screen. -/
import Derived.Test.YtemopgpcpjnmkaaDoorT8
namespace Go.Proofs.YtemopgpcpjnmkaaDoor
open Go.RowKit
set_option linter.unusedVariables false
/-- A corner in view. -/
structure P5 where
  p : V3
  u : Int
  v : Int
/-- A corner on the screen. -/
structure S5 where
  x : Int
  y : Int
  d : Int
  u : Int
  v : Int
def P5.Ok (a : P5) : Prop := (Wi a.p.x (-24576) 24576 ∧ Wi a.p.y (-24576) 24576 ∧ Wi a.p.z (-24576) 24576) ∧ Wi a.u 0 255 ∧ Wi a.v 0 255
def S5.Ok (s : S5) : Prop := (Wi s.x (-65536) 65536 ∧ Wi s.y (-65536) 65536) ∧ Wi s.d 1 65536 ∧ Wi s.u 0 255 ∧ Wi s.v 0 255

set_option maxRecDepth 100000 in
set_option maxHeartbeats 8000000 in
theorem swithin_ok (lo hi : Int) (A : Option Addr) (n c : Nat) (hn : n ≤ 1000000) (l : Nat → Int) (hl : ∀ i, i < n → Wi (l i) lo hi) (w : World) (hR : Row w A n 1 (fun i _ => .int .i64 (l i))) : Calls Tryd.prog 82 #[.int .i64 lo, .int .i64 hi, .slice A n c] w fun e w' => e = .returned (.bool true) ∧ Below w.heap.size w w' := by
  have HR := Lib.hid hR
  have HL := Lib.hid hl
  clear hR hl
  go_enter Tryd.func82, Tryd.ntmps82
  go_wp2
  go_loopw [11] (fun s wr => ∃ k : Nat, k ≤ n ∧ s = .int .i64 k ∧ Below w.heap.size w wr) (fun s wr => n - (intOf s).toNat)
  case atStart => exact ⟨0, Nat.zero_le _, rfl, Below.refl _ _⟩
  case round =>
    obtain ⟨k, hk, rfl, hbel⟩ := hrel
    have BL := Lib.hid hbel
    clear hbel
    by_cases hkn : k < n
    rotate_left
    · obtain rfl : n = k := by omega
      have d0 : decide ((n : Int) < (n : Int)) = false := by simp
      go_wp2
      go_ret
      exact ⟨rfl, BL.out⟩
    have d0 : decide ((k : Int) < (n : Int)) = true := decide_eq_true (by omega)
    obtain ⟨g, o, rfl, hg, hc⟩ := HR.out.below BL.out (by omega)
    have c0 := hc k hkn 0 (by omega)
    simp only [Nat.mul_one, Nat.add_zero] at c0
    have hu' := HL.out k hkn
    obtain ⟨u, hu⟩ : ∃ u, l k = u := ⟨_, rfl⟩
    rw [hu] at c0 hu'
    have UU := Lib.hid hu
    clear hc hu
    have i1 : (k : Int) < (n : Int) := by omega
    have i2 : ¬ ((n : Int) ≤ (k : Int)) := by omega
    have i0 : (0 : Int) ≤ (k : Int) := by omega
    have g1 : decide (u < lo) = false := decide_eq_false (by have := hu'.1; omega)
    have g2 : decide (hi < u) = false := decide_eq_false (by have := hu'.2; omega)
    clear hu'
    go_wp2
    go_roundw
    case rel => exact ⟨k + 1, by omega, by go_num, BL.out⟩
    case measure => simp [intOf]; omega
theorem swithin2 (lo hi : Int) (g : Nat) (t : TypeId) (a b : Int) (h : Wi a lo hi ∧ Wi b lo hi) (w : World) (hb : HasBlk w g t #[.int .i64 a, .int .i64 b]) :
    Calls Tryd.prog 82 #[.int .i64 lo, .int .i64 hi, .slice (some ⟨g, 0, none⟩) 2 2] w fun e w' => e = .returned (.bool true) ∧ Below w.heap.size w w' := by
  refine swithin_ok lo hi (some ⟨g, 0, none⟩) 2 2 (by omega) (fun i => if i = 0 then a else b) (fun i hi => ?_) w (Row.of_blk (t := t) hb fun i hi j hj => ?_)
  · obtain rfl | rfl : i = 0 ∨ i = 1 := by omega
    · exact h.1
    · exact h.2
  · obtain rfl : j = 0 := by omega
    obtain rfl | rfl : i = 0 ∨ i = 1 := by omega
    all_goals rfl
theorem swithin1 (lo hi : Int) (g : Nat) (t : TypeId) (a : Int) (h : Wi a lo hi) (w : World) (hb : HasBlk w g t #[.int .i64 a]) :
    Calls Tryd.prog 82 #[.int .i64 lo, .int .i64 hi, .slice (some ⟨g, 0, none⟩) 1 1] w fun e w' => e = .returned (.bool true) ∧ Below w.heap.size w w' := by
  refine swithin_ok lo hi (some ⟨g, 0, none⟩) 1 1 (by omega) (fun i => a) (fun i hi => ?_) w (Row.of_blk (t := t) hb fun i hi j hj => ?_)
  · obtain rfl : i = 0 := by omega
    exact h
    skip
  · obtain rfl : j = 0 := by omega
    obtain rfl : i = 0 := by omega
    all_goals rfl

set_option maxRecDepth 100000 in
set_option maxHeartbeats 16000000 in
theorem scheck_ok (s : S5) (hs : s.Ok) (w : World) : Calls Tryd.prog 81 #[.agg #[.int .i64 s.x, .int .i64 s.y, .int .i64 s.d, .int .i64 s.u, .int .i64 s.v]] w fun e w' => e = .returned (.int .i64 0) ∧ Below w.heap.size w w' := by
  have HS := Lib.hid hs
  clear hs
  obtain ⟨v0, hv0, P1, HB⟩ := lay1 w 86 #[.int .i64 s.x, .int .i64 s.y, .int .i64 s.d, .int .i64 s.u, .int .i64 s.v]
  go_enter Tryd.func81, Tryd.ntmps81
  go_upto_region 1 with fail
  rw [← hv0.out]
  clear hv0
  have p1_ := P1.out.c5
  go_wp2_with fail
  clear p1_
  refine (swithin2 (-131072) 131072 v0.heap.size 3 s.x s.y (by have h := HS.out; unfold S5.Ok Wi at h; unfold Wi; omega) (v0.alloc (.cells #[.int .i64 s.x, .int .i64 s.y] 3)) (hasBlk_new v0 3 #[.int .i64 s.x, .int .i64 s.y])).mono ?_
  rintro e v1 ⟨rfl, bel⟩
  have bel2 := ((Below.refl v0.heap.size v0).alloc (Nat.le_refl _) (.cells #[.int .i64 s.x, .int .i64 s.y] 3)).trans (bel.mono (by simp))
  clear bel
  replace P1 := mB P1 bel2
  replace HB := mT HB bel2
  clear bel2
  have p1_ := P1.out.c5
  go_wp2_with fail
  clear p1_
  refine (swithin1 (1) 65536 v1.heap.size 3 s.d (by have h := HS.out; unfold S5.Ok Wi at h; unfold Wi; omega) (v1.alloc (.cells #[.int .i64 s.d] 3)) (hasBlk_new v1 3 #[.int .i64 s.d])).mono ?_
  rintro e v2 ⟨rfl, bel⟩
  have bel2 := ((Below.refl v1.heap.size v1).alloc (Nat.le_refl _) (.cells #[.int .i64 s.d] 3)).trans (bel.mono (by simp))
  clear bel
  replace P1 := mB P1 bel2
  replace HB := mT HB bel2
  clear bel2
  have p1_ := P1.out.c5
  go_wp2_with fail
  clear p1_
  refine (swithin2 (0) 255 v2.heap.size 3 s.u s.v (by have h := HS.out; unfold S5.Ok Wi at h; unfold Wi; omega) (v2.alloc (.cells #[.int .i64 s.u, .int .i64 s.v] 3)) (hasBlk_new v2 3 #[.int .i64 s.u, .int .i64 s.v])).mono ?_
  rintro e v3 ⟨rfl, bel⟩
  have bel2 := ((Below.refl v2.heap.size v2).alloc (Nat.le_refl _) (.cells #[.int .i64 s.u, .int .i64 s.v] 3)).trans (bel.mono (by simp))
  clear bel
  replace P1 := mB P1 bel2
  replace HB := mT HB bel2
  clear bel2
  have p1_ := P1.out.c5
  go_wp2
  go_ret
  exact ⟨rfl, HB.out⟩
theorem ix_two0 (a b : Int) (W : World) : (Instr.index 128 (.agg #[.int .i64 a, .int .i64 b]) (.int .i64 0)).run Tryd.prog W = .ok (.int .i64 a) W := by kernel_rfl
theorem ix_two1 (a b : Int) (W : World) : (Instr.index 128 (.agg #[.int .i64 a, .int .i64 b]) (.int .i64 1)).run Tryd.prog W = .ok (.int .i64 b) W := by kernel_rfl
theorem bld_28 (x y z : Int) (w : World) : (Instr.build 28 #[(0, .int .i64 x), (1, .int .i64 y), (2, .int .i64 z)]).run Tryd.prog w = .ok (.agg #[.int .i64 x, .int .i64 y, .int .i64 z]) w := by kernel_rfl
theorem bld_128 (x y : Int) (w : World) : (Instr.build 128 #[(0, .int .i64 x), (1, .int .i64 y)]).run Tryd.prog w = .ok (.agg #[.int .i64 x, .int .i64 y]) w := by kernel_rfl

set_option maxRecDepth 100000 in
set_option maxHeartbeats 16000000 in
theorem pcheck_ok (s : P5) (hs : s.Ok) (w : World) : Calls Tryd.prog 72 #[.agg #[.int .i64 s.p.x, .int .i64 s.p.y, .int .i64 s.p.z, .int .i64 s.u, .int .i64 s.v]] w fun e w' => e = .returned (.int .i64 0) ∧ Below w.heap.size w w' := by
  have HS := Lib.hid hs
  clear hs
  obtain ⟨v0, hv0, P1, HB⟩ := lay1 w 124 #[.int .i64 s.p.x, .int .i64 s.p.y, .int .i64 s.p.z, .int .i64 s.u, .int .i64 s.v]
  go_enter Tryd.func72, Tryd.ntmps72
  go_upto_region 1 with fail
  rw [← hv0.out]
  clear hv0
  have hz1 := bld_28
  have hz2 := bld_128
  have p1_ := P1.out.c5
  go_wp2
  clear p1_
  go_loopw [17] (fun ss wr => ∃ i : Nat, i ≤ 3 ∧ ss = .int .i64 i ∧ Below w.heap.size w wr ∧ HasBlk wr w.heap.size 124 #[.int .i64 s.p.x, .int .i64 s.p.y, .int .i64 s.p.z, .int .i64 s.u, .int .i64 s.v]) (fun ss wr => 3 - (intOf ss).toNat)
  case atStart => exact ⟨0, Nat.zero_le _, rfl, HB.out, P1.out⟩
  case round =>
    clear HB P1
    obtain ⟨i, hi, rfl, hbel, hp⟩ := hrel
    have HB := Lib.hid hbel
    clear hbel
    have P1 := Lib.hid hp
    clear hp
    obtain rfl | rfl | rfl | rfl : i = 0 ∨ i = 1 ∨ i = 2 ∨ i = 3 := by omega
    · have hx := ix_num0
      have g1 : decide (s.p.x < -32768) = false := decide_eq_false (by have h := HS.out; unfold P5.Ok Wi at h; omega)
      have g2 : decide (32768 < s.p.x) = false := decide_eq_false (by have h := HS.out; unfold P5.Ok Wi at h; omega)
      go_wp2
      go_roundw
      case rel => exact ⟨1, by omega, by go_num, HB.out, P1.out⟩
      case measure => simp [intOf]
    · have hx := ix_num1
      have g1 : decide (s.p.y < -32768) = false := decide_eq_false (by have h := HS.out; unfold P5.Ok Wi at h; omega)
      have g2 : decide (32768 < s.p.y) = false := decide_eq_false (by have h := HS.out; unfold P5.Ok Wi at h; omega)
      go_wp2
      go_roundw
      case rel => exact ⟨2, by omega, by go_num, HB.out, P1.out⟩
      case measure => simp [intOf]
    · have hx := ix_num2
      have g1 : decide (s.p.z < -32768) = false := decide_eq_false (by have h := HS.out; unfold P5.Ok Wi at h; omega)
      have g2 : decide (32768 < s.p.z) = false := decide_eq_false (by have h := HS.out; unfold P5.Ok Wi at h; omega)
      go_wp2
      go_roundw
      case rel => exact ⟨3, by omega, by go_num, HB.out, P1.out⟩
      case measure => simp [intOf]
    · have p1_ := P1.out.c5
      go_wp2
      clear p1_
      obtain ⟨wo, rfl⟩ : ∃ wo : World, wo = wr := ⟨_, rfl⟩
      go_loopw [32] (fun ss wr => ∃ i : Nat, i ≤ 2 ∧ ss = .int .i64 i ∧ Below w.heap.size w wr) (fun ss wr => 2 - (intOf ss).toNat)
      case atStart => exact ⟨0, Nat.zero_le _, rfl, HB.out⟩
      case round =>
        clear HB P1
        obtain ⟨i, hi, rfl, hbel⟩ := hrel
        have HB := Lib.hid hbel
        clear hbel
        obtain rfl | rfl | rfl : i = 0 ∨ i = 1 ∨ i = 2 := by omega
        · have hx := ix_two0
          have g1 : decide (s.u < 0) = false := decide_eq_false (by have h := HS.out; unfold P5.Ok Wi at h; omega)
          have g2 : decide (255 < s.u) = false := decide_eq_false (by have h := HS.out; unfold P5.Ok Wi at h; omega)
          go_wp2
          go_roundw
          case rel => exact ⟨1, by omega, by go_num, HB.out⟩
          case measure => simp [intOf]
        · have hx := ix_two1
          have g1 : decide (s.v < 0) = false := decide_eq_false (by have h := HS.out; unfold P5.Ok Wi at h; omega)
          have g2 : decide (255 < s.v) = false := decide_eq_false (by have h := HS.out; unfold P5.Ok Wi at h; omega)
          go_wp2
          go_roundw
          case rel => exact ⟨2, by omega, by go_num, HB.out⟩
          case measure => simp [intOf]
        · go_wp2
          go_ret
          exact ⟨rfl, HB.out⟩
end Go.Proofs.YtemopgpcpjnmkaaDoor
