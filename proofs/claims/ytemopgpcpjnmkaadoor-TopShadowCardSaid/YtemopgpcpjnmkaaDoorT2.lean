/- top: bounds; cameras. -/
import Derived.Test.YtemopgpcpjnmkaaDoorT1
namespace Go.Proofs.YtemopgpcpjnmkaaDoor
open Go.RowKit
set_option linter.unusedVariables false
/-- A bool that tells a proposition. -/
def EqR (p : Prop) (e : Ending) : Prop := ∃ b : Bool, e = .returned (.bool b) ∧ (b = true ↔ p)
open Classical in
/-- Nought, or an error's number. -/
noncomputable def cod (p : Prop) (n : Int) : Int := if p then 0 else n
theorem cod_yes {p : Prop} {n : Int} (h : p) : cod p n = 0 := if_pos h
theorem cod_no {p : Prop} {n : Int} (h : ¬ p) : cod p n = n := if_neg h
def Wi (n lo hi : Int) : Prop := lo ≤ n ∧ n ≤ hi
def V3.Ok (v : V3) : Prop := Wi v.x (-4096) 4096 ∧ Wi v.y (-4096) 4096 ∧ Wi v.z (-4096) 4096
/-- A camera. -/
structure CD where
  p : V3
  m : Nat → Int
  F : Int
  N : Int
  W : Int
  H : Int
def CD.Ok (c : CD) : Prop := (c.p.Ok ∧ Wi c.F 1 64 ∧ Wi c.N 256 4096 ∧ Wi c.W 1 64 ∧ Wi c.H 1 64) ∧ ∀ q, q < 9 → Wi (c.m q) (-256) 256

set_option maxRecDepth 100000 in
set_option maxHeartbeats 8000000 in
theorem in_any (m : Int) (hm : 0 ≤ m ∧ m ≤ 1099511627776) (A : Option Addr) (n c : Nat) (hn : n ≤ 1000000) (l : Nat → Int) (w : World) (hR : Row w A n 1 (fun i _ => .int .i64 (l i))) : Calls Tryd.prog 36 #[.int .i64 m, .slice A n c] w fun e w' => EqR (∀ i, i < n → Wi (l i) (-m) m) e ∧ Below w.heap.size w w' := by
  have HR := Lib.hid hR
  clear hR
  go_enter Tryd.func36, Tryd.ntmps36
  go_wp2
  go_loopw [9] (fun s wr => ∃ k : Nat, k ≤ n ∧ s = .int .i64 k ∧ (∀ i, i < k → Wi (l i) (-m) m) ∧ Below w.heap.size w wr) (fun s wr => n - (intOf s).toNat)
  case atStart => exact ⟨0, Nat.zero_le _, rfl, fun i hi => absurd hi (by omega), Below.refl _ _⟩
  case round =>
    obtain ⟨k, hk, rfl, hall, hbel⟩ := hrel
    have AL := Lib.hid hall
    have BL := Lib.hid hbel
    clear hall hbel
    by_cases hkn : k < n
    rotate_left
    · obtain rfl : n = k := by omega
      have d0 : decide ((n : Int) < (n : Int)) = false := by simp
      go_wp2
      go_ret
      exact ⟨⟨true, rfl, ⟨fun _ => AL.out, fun _ => rfl⟩⟩, BL.out⟩
    have d0 : decide ((k : Int) < (n : Int)) = true := decide_eq_true (by omega)
    obtain ⟨g, o, rfl, hg, hc⟩ := HR.out.below BL.out (by omega)
    have c0 := hc k hkn 0 (by omega)
    simp only [Nat.mul_one, Nat.add_zero] at c0
    obtain ⟨u, hu⟩ : ∃ u, l k = u := ⟨_, rfl⟩
    rw [hu] at c0
    have UU := Lib.hid hu
    clear hc hu
    have i1 : (k : Int) < (n : Int) := by omega
    have i2 : ¬ ((n : Int) ≤ (k : Int)) := by omega
    have i0 : (0 : Int) ≤ (k : Int) := by omega
    have w1 : IntKind.i64.wrap (-m) = -m := IntWalk.i64_in _ (by omega)
    by_cases h1 : u < -m
    · have g1 : decide (u < -m) = true := decide_eq_true h1
      have HN := Lib.hid (show ¬ ∀ i, i < n → Wi (l i) (-m) m from fun h => by have := (h k hkn).1; rw [UU.out] at this; omega)
      clear h1
      go_wp2
      go_ret
      exact ⟨⟨false, rfl, ⟨fun h => (by cases h), fun h => absurd h HN.out⟩⟩, BL.out⟩
    have g1 : decide (u < -m) = false := decide_eq_false h1
    by_cases h2 : m < u
    · have g2 : decide (m < u) = true := decide_eq_true h2
      have HN := Lib.hid (show ¬ ∀ i, i < n → Wi (l i) (-m) m from fun h => by have := (h k hkn).2; rw [UU.out] at this; omega)
      clear h1 h2
      go_wp2
      go_ret
      exact ⟨⟨false, rfl, ⟨fun h => (by cases h), fun h => absurd h HN.out⟩⟩, BL.out⟩
    have g2 : decide (m < u) = false := decide_eq_false h2
    have HW := Lib.hid (show Wi (l k) (-m) m by rw [UU.out]; exact ⟨by omega, by omega⟩)
    clear h1 h2
    go_wp2
    go_roundw
    case rel =>
      refine ⟨k + 1, by omega, by go_num, fun i hi => ?_, BL.out⟩
      rcases Nat.lt_or_ge i k with h | h
      · exact AL.out i h
      · obtain rfl : i = k := by omega
        exact HW.out
    case measure => simp [intOf]; omega

set_option maxRecDepth 100000 in
set_option maxHeartbeats 8000000 in
theorem vcheck_any (v : V3) (w : World) : Calls Tryd.prog 23 #[.agg #[.int .i64 v.x, .int .i64 v.y, .int .i64 v.z]] w fun e w' => e = .returned (.int .i64 (cod v.Ok 20)) ∧ Below w.heap.size w w' := by
  obtain ⟨x, y, z⟩ := v
  dsimp only
  have B0 := Lib.hid (((Below.refl w.heap.size w).alloc (Nat.le_refl _) (.cells #[.int .i64 x, .int .i64 y, .int .i64 z] 27)).alloc (by simp) (.cells #[.int .i64 x, .int .i64 y, .int .i64 z] 3))
  have hR : Row ((w.alloc (.cells #[.int .i64 x, .int .i64 y, .int .i64 z] 27)).alloc (.cells #[.int .i64 x, .int .i64 y, .int .i64 z] 3)) (some ⟨w.heap.size + 1, 0, none⟩) 3 1 (fun i _ => .int .i64 (if i = 0 then x else if i = 1 then y else z)) := by
    refine Row.of_blk (t := 3) (cs := #[.int .i64 x, .int .i64 y, .int .i64 z]) (by simpa using hasBlk_new (w.alloc (.cells #[.int .i64 x, .int .i64 y, .int .i64 z] 27)) 3 #[.int .i64 x, .int .i64 y, .int .i64 z]) fun i hi j hj => ?_
    obtain rfl : j = 0 := by omega
    obtain rfl | rfl | rfl : i = 0 ∨ i = 1 ∨ i = 2 := by omega
    all_goals rfl
  have KX := Lib.hid (in_any 4096 (by omega) (some ⟨w.heap.size + 1, 0, none⟩) 3 3 (by omega) (fun i => if i = 0 then x else if i = 1 then y else z) _ hR)
  clear hR
  go_enter Tryd.func23, Tryd.ntmps23
  go_wp2_with fail
  refine KX.out.mono ?_
  rintro e v1 ⟨⟨b, rfl, hb⟩, bel⟩
  have HB := Lib.hid (B0.out.trans (bel.mono B0.out.size))
  have hiff : b = true ↔ V3.Ok ⟨x, y, z⟩ := by
    rw [hb]
    constructor
    · intro h
      exact ⟨h 0 (by omega), h 1 (by omega), h 2 (by omega)⟩
    · rintro ⟨h1, h2, h3⟩ i hi
      obtain rfl | rfl | rfl : i = 0 ∨ i = 1 ∨ i = 2 := by omega
      · exact h1
      · exact h2
      · exact h3
  have HI := Lib.hid hiff
  clear KX B0 bel hb hiff
  cases b
  · have HE := Lib.hid (show cod (V3.Ok ⟨x, y, z⟩) 20 = 20 from cod_no fun h => by have := HI.out.2 h; cases this)
    go_wp2
    go_ret
    exact ⟨by rw [HE.out]; rfl, HB.out⟩
  · have HE := Lib.hid (show cod (V3.Ok ⟨x, y, z⟩) 20 = 0 from cod_yes (HI.out.1 rfl))
    go_wp2
    go_ret
    exact ⟨by rw [HE.out]; rfl, HB.out⟩
theorem bld_v (x y z : Int) (w : World) : (Instr.build 27 #[(0, .int .i64 x), (1, .int .i64 y), (2, .int .i64 z)]).run Tryd.prog w = .ok (.agg #[.int .i64 x, .int .i64 y, .int .i64 z]) w :=
  run_build w 27 _ #[.int .i64 x, .int .i64 y, .int .i64 z] (by kernel_rfl)
def V3.Sm (v : V3) : Prop := Wi v.x (-1000000) 1000000 ∧ Wi v.y (-1000000) 1000000 ∧ Wi v.z (-1000000) 1000000

set_option maxRecDepth 100000 in
set_option maxHeartbeats 8000000 in
theorem less_any (u v : V3) (hu : u.Sm) (hv : v.Sm) (w : World) : Calls Tryd.prog 27 #[.agg #[.int .i64 u.x, .int .i64 u.y, .int .i64 u.z], .agg #[.int .i64 v.x, .int .i64 v.y, .int .i64 v.z]] w fun e w' => e = .returned (.agg #[.int .i64 (u.less v).x, .int .i64 (u.less v).y, .int .i64 (u.less v).z]) ∧ Below w.heap.size w w' := by
  obtain ⟨a, b, c⟩ := u
  obtain ⟨p, q, r⟩ := v
  obtain ⟨⟨u1, u2⟩, ⟨u3, u4⟩, u5, u6⟩ := hu
  obtain ⟨⟨v1, v2⟩, ⟨v3, v4⟩, v5, v6⟩ := hv
  dsimp only [V3.less] at *
  have w1 : IntKind.i64.wrap (a - p) = a - p := IntWalk.i64_in _ (by omega)
  have w2 : IntKind.i64.wrap (b - q) = b - q := IntWalk.i64_in _ (by omega)
  have w3 : IntKind.i64.wrap (c - r) = c - r := IntWalk.i64_in _ (by omega)
  have hb9 := bld_v (a - p) (b - q) (c - r)
  have HB := Lib.hid ((((Below.refl w.heap.size w).alloc (Nat.le_refl _) (.cells #[.int .i64 a, .int .i64 b, .int .i64 c] 27)).alloc (by simp) (.cells #[.int .i64 p, .int .i64 q, .int .i64 r] 27)).alloc (by first | omega | (simp; done) | (simp; omega)) (.cells #[.int .i64 0, .int .i64 0, .int .i64 0] 27))
  have P1 := Lib.hid (((hasBlk_new w 27 #[.int .i64 a, .int .i64 b, .int .i64 c]).alloc (.cells #[.int .i64 p, .int .i64 q, .int .i64 r] 27)).alloc (.cells #[.int .i64 0, .int .i64 0, .int .i64 0] 27))
  have P2 := Lib.hid (show HasBlk (((w.alloc (.cells #[.int .i64 a, .int .i64 b, .int .i64 c] 27)).alloc (.cells #[.int .i64 p, .int .i64 q, .int .i64 r] 27)).alloc (.cells #[.int .i64 0, .int .i64 0, .int .i64 0] 27)) (w.heap.size + 1) 27 #[.int .i64 p, .int .i64 q, .int .i64 r] by simpa using (hasBlk_new (w.alloc (.cells #[.int .i64 a, .int .i64 b, .int .i64 c] 27)) 27 #[.int .i64 p, .int .i64 q, .int .i64 r]).alloc (.cells #[.int .i64 0, .int .i64 0, .int .i64 0] 27))
  have P3 := Lib.hid (show HasBlk (((w.alloc (.cells #[.int .i64 a, .int .i64 b, .int .i64 c] 27)).alloc (.cells #[.int .i64 p, .int .i64 q, .int .i64 r] 27)).alloc (.cells #[.int .i64 0, .int .i64 0, .int .i64 0] 27)) (w.heap.size + 1 + 1) 27 #[.int .i64 0, .int .i64 0, .int .i64 0] by simpa using hasBlk_new ((w.alloc (.cells #[.int .i64 a, .int .i64 b, .int .i64 c] 27)).alloc (.cells #[.int .i64 p, .int .i64 q, .int .i64 r] 27)) 27 #[.int .i64 0, .int .i64 0, .int .i64 0])
  clear u1 u2 u3 u4 u5 u6 v1 v2 v3 v4 v5 v6
  go_enter Tryd.func27, Tryd.ntmps27
  go_upto_region 1 with fail
  generalize (((w.alloc (.cells #[.int .i64 a, .int .i64 b, .int .i64 c] 27)).alloc (.cells #[.int .i64 p, .int .i64 q, .int .i64 r] 27)).alloc (.cells #[.int .i64 0, .int .i64 0, .int .i64 0] 27)) = v0 at *
  have p1_ := P1.out.c3
  have p2_ := P2.out.c3
  have p3_ := P3.out.f3
  go_wp2
  refine bodyPost_ret (v := .agg #[.int .i64 (a - p), .int .i64 (b - q), .int .i64 (c - r)]) (by simp [results, Tryd.results27, go_sem, *]) rfl ⟨rfl, ?_⟩
  exact Below.setCell (Below.setCell (Below.setCell HB.out (by first | omega | (simp; done) | (simp; omega)) _) (by first | omega | (simp; done) | (simp; omega)) _) (by first | omega | (simp; done) | (simp; omega)) _

set_option maxRecDepth 100000 in
set_option maxHeartbeats 8000000 in
theorem bin_any (n : Int) (w : World) : Calls Tryd.prog 38 #[.int .i64 n] w fun e w' => EqR (Wi n (-32768) 32768) e ∧ Below w.heap.size w w' := by
  by_cases h1 : -32768 ≤ n
  rotate_left
  · have g1 : decide (-32768 ≤ n) = false := decide_eq_false h1
    have HN := Lib.hid h1
    clear h1
    go_enter Tryd.func38, Tryd.ntmps38
    go_wp2
    go_ret
    exact ⟨⟨false, rfl, ⟨fun h => (by cases h), fun h => by have := h.1; have := HN.out; omega⟩⟩, Below.refl _ _⟩
  have g1 : decide (-32768 ≤ n) = true := decide_eq_true h1
  have H1 := Lib.hid h1
  by_cases h2 : n ≤ 32768
  · have g2 : decide (n ≤ 32768) = true := decide_eq_true h2
    have H2 := Lib.hid h2
    clear h1 h2
    go_enter Tryd.func38, Tryd.ntmps38
    go_wp2
    go_ret
    exact ⟨⟨true, rfl, ⟨fun _ => ⟨H1.out, H2.out⟩, fun _ => rfl⟩⟩, Below.refl _ _⟩
  · have g2 : decide (n ≤ 32768) = false := decide_eq_false h2
    have HN := Lib.hid h2
    clear h1 h2
    go_enter Tryd.func38, Tryd.ntmps38
    go_wp2
    go_ret
    exact ⟨⟨false, rfl, ⟨fun h => (by cases h), fun h => by have := h.2; have := HN.out; omega⟩⟩, Below.refl _ _⟩
theorem within_b {n lo hi : Int} {b : Bool} (h : b = true ↔ Wi n lo hi) (w : World) : Calls Tryd.prog 15 #[.int .i64 n, .int .i64 lo, .int .i64 hi] w fun e w' => e = .returned (.bool b) ∧ Below w.heap.size w w' := by
  have e : b = (decide (lo ≤ n) && decide (n ≤ hi)) := by
    rw [Bool.eq_iff_iff, h]
    simp [Wi]
  rw [e]
  exact within_any n lo hi w
theorem ix_row0 (c : CD) (W : World) : (Instr.index 29 (.agg #[.int .i64 (c.m 0), .int .i64 (c.m 1), .int .i64 (c.m 2), .int .i64 (c.m 3), .int .i64 (c.m 4), .int .i64 (c.m 5), .int .i64 (c.m 6), .int .i64 (c.m 7), .int .i64 (c.m 8)]) (.int .i64 0)).run Tryd.prog W = .ok (.agg #[.int .i64 (c.m 0), .int .i64 (c.m 1), .int .i64 (c.m 2)]) W := by kernel_rfl
theorem ix_num0 (a b d : Int) (W : World) : (Instr.index 28 (.agg #[.int .i64 a, .int .i64 b, .int .i64 d]) (.int .i64 0)).run Tryd.prog W = .ok (.int .i64 a) W := by kernel_rfl
theorem ix_row1 (c : CD) (W : World) : (Instr.index 29 (.agg #[.int .i64 (c.m 0), .int .i64 (c.m 1), .int .i64 (c.m 2), .int .i64 (c.m 3), .int .i64 (c.m 4), .int .i64 (c.m 5), .int .i64 (c.m 6), .int .i64 (c.m 7), .int .i64 (c.m 8)]) (.int .i64 1)).run Tryd.prog W = .ok (.agg #[.int .i64 (c.m 3), .int .i64 (c.m 4), .int .i64 (c.m 5)]) W := by kernel_rfl
theorem ix_num1 (a b d : Int) (W : World) : (Instr.index 28 (.agg #[.int .i64 a, .int .i64 b, .int .i64 d]) (.int .i64 1)).run Tryd.prog W = .ok (.int .i64 b) W := by kernel_rfl
theorem ix_row2 (c : CD) (W : World) : (Instr.index 29 (.agg #[.int .i64 (c.m 0), .int .i64 (c.m 1), .int .i64 (c.m 2), .int .i64 (c.m 3), .int .i64 (c.m 4), .int .i64 (c.m 5), .int .i64 (c.m 6), .int .i64 (c.m 7), .int .i64 (c.m 8)]) (.int .i64 2)).run Tryd.prog W = .ok (.agg #[.int .i64 (c.m 6), .int .i64 (c.m 7), .int .i64 (c.m 8)]) W := by kernel_rfl
theorem ix_num2 (a b d : Int) (W : World) : (Instr.index 28 (.agg #[.int .i64 a, .int .i64 b, .int .i64 d]) (.int .i64 2)).run Tryd.prog W = .ok (.int .i64 d) W := by kernel_rfl
theorem ex_bool (p : Prop) : ∃ b : Bool, (b = true ↔ p) := by
  by_cases h : p
  · exact ⟨true, by simp [h]⟩
  · exact ⟨false, by simp [h]⟩

set_option maxRecDepth 100000 in
set_option maxHeartbeats 16000000 in
theorem ccheck_any (c : CD) (w : World) : Calls Tryd.prog 14 #[.agg #[.int .i64 c.p.x, .int .i64 c.p.y, .int .i64 c.p.z, .int .i64 (c.m 0), .int .i64 (c.m 1), .int .i64 (c.m 2), .int .i64 (c.m 3), .int .i64 (c.m 4), .int .i64 (c.m 5), .int .i64 (c.m 6), .int .i64 (c.m 7), .int .i64 (c.m 8), .int .i64 c.F, .int .i64 c.N, .int .i64 c.W, .int .i64 c.H]] w fun e w' => e = .returned (.int .i64 (cod c.Ok 150)) ∧ Below w.heap.size w w' := by
  have HB := Lib.hid ((Below.refl w.heap.size w).alloc (Nat.le_refl _) (.cells #[.int .i64 c.p.x, .int .i64 c.p.y, .int .i64 c.p.z, .int .i64 (c.m 0), .int .i64 (c.m 1), .int .i64 (c.m 2), .int .i64 (c.m 3), .int .i64 (c.m 4), .int .i64 (c.m 5), .int .i64 (c.m 6), .int .i64 (c.m 7), .int .i64 (c.m 8), .int .i64 c.F, .int .i64 c.N, .int .i64 c.W, .int .i64 c.H] 31))
  have P1 := Lib.hid (hasBlk_new w 31 #[.int .i64 c.p.x, .int .i64 c.p.y, .int .i64 c.p.z, .int .i64 (c.m 0), .int .i64 (c.m 1), .int .i64 (c.m 2), .int .i64 (c.m 3), .int .i64 (c.m 4), .int .i64 (c.m 5), .int .i64 (c.m 6), .int .i64 (c.m 7), .int .i64 (c.m 8), .int .i64 c.F, .int .i64 c.N, .int .i64 c.W, .int .i64 c.H])
  obtain ⟨b1, hb1⟩ := ex_bool (Wi c.F 1 64)
  obtain ⟨b2, hb2⟩ := ex_bool (Wi c.N 256 4096)
  obtain ⟨b3, hb3⟩ := ex_bool (Wi c.W 1 64)
  obtain ⟨b4, hb4⟩ := ex_bool (Wi c.H 1 64)
  have B1 := Lib.hid hb1
  have B2 := Lib.hid hb2
  have B3 := Lib.hid hb3
  have B4 := Lib.hid hb4
  clear hb1 hb2 hb3 hb4
  go_enter Tryd.func14, Tryd.ntmps14
  go_upto_region 1 with fail
  generalize w.alloc (.cells #[.int .i64 c.p.x, .int .i64 c.p.y, .int .i64 c.p.z, .int .i64 (c.m 0), .int .i64 (c.m 1), .int .i64 (c.m 2), .int .i64 (c.m 3), .int .i64 (c.m 4), .int .i64 (c.m 5), .int .i64 (c.m 6), .int .i64 (c.m 7), .int .i64 (c.m 8), .int .i64 c.F, .int .i64 c.N, .int .i64 c.W, .int .i64 c.H] 31) = v0 at *
  go_cut [3] (fun s wx => ∃ b : Bool, s = .bool b ∧ (b = true ↔ (c.p.Ok ∧ Wi c.F 1 64 ∧ Wi c.N 256 4096 ∧ Wi c.W 1 64 ∧ Wi c.H 1 64)) ∧ HasBlk wx w.heap.size 31 #[.int .i64 c.p.x, .int .i64 c.p.y, .int .i64 c.p.z, .int .i64 (c.m 0), .int .i64 (c.m 1), .int .i64 (c.m 2), .int .i64 (c.m 3), .int .i64 (c.m 4), .int .i64 (c.m 5), .int .i64 (c.m 6), .int .i64 (c.m 7), .int .i64 (c.m 8), .int .i64 c.F, .int .i64 c.N, .int .i64 c.W, .int .i64 c.H] ∧ Below w.heap.size w wx)
  case first =>
    have p1_ := P1.out.c16
    have KX := Lib.hid (vcheck_any c.p v0)
    go_wp2_with fail
    refine KX.out.mono ?_
    rintro e v1 ⟨rfl, bel⟩
    clear p1_
    have HB' := Lib.hid (HB.out.trans (bel.mono HB.out.size))
    have P1' := Lib.hid (P1.out.below bel)
    clear HB P1
    have HB := Lib.hid HB'.out
    have P1 := Lib.hid P1'.out
    clear HB' P1'
    clear bel KX
    by_cases hp : c.p.Ok
    rotate_left
    · rw [cod_no hp]
      have HN := Lib.hid hp
      clear hp
      go_wp2
      go_meet
      exact ⟨false, rfl, ⟨fun h => (by cases h), fun h => absurd h.1 HN.out⟩, P1.out, HB.out⟩
    rw [cod_yes hp]
    have HP := Lib.hid hp
    clear hp
    have p1_ := P1.out.c16
    go_wp2_with fail
    refine (within_b B1.out _).mono ?_
    rintro e v2 ⟨rfl, bel⟩
    clear p1_
    have HB' := Lib.hid (HB.out.trans (bel.mono HB.out.size))
    have P1' := Lib.hid (P1.out.below bel)
    clear HB P1
    have HB := Lib.hid HB'.out
    have P1 := Lib.hid P1'.out
    clear HB' P1'
    clear bel
    cases b1
    · go_wp2
      go_meet
      exact ⟨false, rfl, ⟨fun h => (by cases h), fun h => by have := B1.out.2 h.2.1; cases this⟩, P1.out, HB.out⟩
    have p1_ := P1.out.c16
    go_wp2_with fail
    refine (within_b B2.out _).mono ?_
    rintro e v3 ⟨rfl, bel⟩
    clear p1_
    have HB' := Lib.hid (HB.out.trans (bel.mono HB.out.size))
    have P1' := Lib.hid (P1.out.below bel)
    clear HB P1
    have HB := Lib.hid HB'.out
    have P1 := Lib.hid P1'.out
    clear HB' P1'
    clear bel
    cases b2
    · go_wp2
      go_meet
      exact ⟨false, rfl, ⟨fun h => (by cases h), fun h => by have := B2.out.2 h.2.2.1; cases this⟩, P1.out, HB.out⟩
    have p1_ := P1.out.c16
    go_wp2_with fail
    refine (within_b B3.out _).mono ?_
    rintro e v4 ⟨rfl, bel⟩
    clear p1_
    have HB' := Lib.hid (HB.out.trans (bel.mono HB.out.size))
    have P1' := Lib.hid (P1.out.below bel)
    clear HB P1
    have HB := Lib.hid HB'.out
    have P1 := Lib.hid P1'.out
    clear HB' P1'
    clear bel
    cases b3
    · go_wp2
      go_meet
      exact ⟨false, rfl, ⟨fun h => (by cases h), fun h => by have := B3.out.2 h.2.2.2.1; cases this⟩, P1.out, HB.out⟩
    have p1_ := P1.out.c16
    go_wp2_with fail
    refine (within_b B4.out _).mono ?_
    rintro e v5 ⟨rfl, bel⟩
    clear p1_
    have HB' := Lib.hid (HB.out.trans (bel.mono HB.out.size))
    have P1' := Lib.hid (P1.out.below bel)
    clear HB P1
    have HB := Lib.hid HB'.out
    have P1 := Lib.hid P1'.out
    clear HB' P1'
    clear bel
    cases b4
    · go_wp2
      go_meet
      exact ⟨false, rfl, ⟨fun h => (by cases h), fun h => by have := B4.out.2 h.2.2.2.2; cases this⟩, P1.out, HB.out⟩
    go_wp2
    go_meet
    exact ⟨true, rfl, ⟨fun _ => ⟨HP.out, B1.out.1 (by simp), B2.out.1 (by simp), B3.out.1 (by simp), B4.out.1 (by simp)⟩, fun _ => rfl⟩, P1.out, HB.out⟩
  case rest =>
    obtain ⟨b, rfl, hb, hP, hB⟩ := hcut
    have IF := Lib.hid hb
    have Q1 := Lib.hid hP
    have BV := Lib.hid hB
    clear hb hP hB P1 HB B1 B2 B3 B4
    have q1_ := Q1.out.c16
    go_wp2
    clear q1_ Q1
    go_loopw [3, 34] (fun s3 s34 wr => ∃ (i : Nat) (b : Bool), i ≤ 3 ∧ s3 = .bool b ∧ s34 = .int .i64 i ∧ (b = true ↔ ((c.p.Ok ∧ Wi c.F 1 64 ∧ Wi c.N 256 4096 ∧ Wi c.W 1 64 ∧ Wi c.H 1 64) ∧ ∀ q, q < 3 * i → Wi (c.m q) (-256) 256)) ∧ Below w.heap.size w wr) (fun _ s34 wr => 3 - (intOf s34).toNat)
    case atStart => exact ⟨0, b, Nat.zero_le _, rfl, rfl, by rw [IF.out]; exact ⟨fun h => ⟨h, fun q hq => absurd hq (by omega)⟩, fun h => h.1⟩, BV.out⟩
    case round =>
      clear IF BV
      obtain ⟨i, b, hi, rfl, rfl, hiff, hbel⟩ := hrel
      have IF := Lib.hid hiff
      have BV := Lib.hid hbel
      clear hiff hbel
      obtain hi3 | rfl | rfl | rfl : i = 3 ∨ i = 0 ∨ i = 1 ∨ i = 2 := by omega
      · subst hi3
        cases b
        · have HE := Lib.hid (show cod c.Ok 150 = 150 from cod_no fun h => by have := IF.out.2 ⟨h.1, h.2⟩; cases this)
          go_wp2
          go_ret
          exact ⟨by rw [HE.out]; rfl, BV.out⟩
        · have HE := Lib.hid (show cod c.Ok 150 = 0 from cod_yes ⟨(IF.out.1 (by simp)).1, (IF.out.1 (by simp)).2⟩)
          go_wp2
          go_ret
          exact ⟨by rw [HE.out]; rfl, BV.out⟩
      · have hx1 := ix_row0 c
        have hrow : HasBlk (wr.alloc (.cells #[.int .i64 (c.m 0), .int .i64 (c.m 1), .int .i64 (c.m 2)] 28)) wr.heap.size 28 #[.int .i64 (c.m 0), .int .i64 (c.m 1), .int .i64 (c.m 2)] := hasBlk_new wr 28 #[.int .i64 (c.m 0), .int .i64 (c.m 1), .int .i64 (c.m 2)]
        go_upto_region 5 with fail
        have S5 := Lib.hid hrow
        have BV' := Lib.hid (BV.out.alloc BV.out.size (.cells #[.int .i64 (c.m 0), .int .i64 (c.m 1), .int .i64 (c.m 2)] 28))
        clear hrow BV
        have BV := Lib.hid BV'.out
        clear BV'
        generalize wr.alloc (.cells #[.int .i64 (c.m 0), .int .i64 (c.m 1), .int .i64 (c.m 2)] 28) = u0 at *
        generalize wr.heap.size = x5 at *
        have s5_ := S5.out.c3
        go_wp2
        clear s5_
        go_loopw [3, 38] (fun s3 s38 wr => ∃ (k : Nat) (b : Bool), k ≤ 3 ∧ s3 = .bool b ∧ s38 = .int .i64 k ∧ (b = true ↔ ((c.p.Ok ∧ Wi c.F 1 64 ∧ Wi c.N 256 4096 ∧ Wi c.W 1 64 ∧ Wi c.H 1 64) ∧ ∀ q, q < 0 + k → Wi (c.m q) (-256) 256)) ∧ Below w.heap.size w wr) (fun _ s38 wr => 3 - (intOf s38).toNat)
        case atStart => exact ⟨0, b, Nat.zero_le _, rfl, rfl, IF.out, BV.out⟩
        case round =>
          clear S5 BV IF
          obtain ⟨k, b, hk, rfl, rfl, hiff, hbel⟩ := hrel
          have IF := Lib.hid hiff
          have BV := Lib.hid hbel
          clear hiff hbel
          obtain hk3 | rfl | rfl | rfl : k = 3 ∨ k = 0 ∨ k = 1 ∨ k = 2 := by omega
          · subst hk3
            go_wp2
            go_roundw
            case rel => exact ⟨1, b, by omega, rfl, by go_num, IF.out, BV.out⟩
            case measure => simp [intOf]
          · have hx3 := ix_num0
            cases b
            · go_wp2
              go_roundw
              case rel => exact ⟨1, false, by omega, rfl, by go_num, ⟨fun h => (by cases h), fun h => by have := IF.out.2 ⟨h.1, fun q hq => h.2 q (by omega)⟩; cases this⟩, BV.out⟩
              case measure => simp [intOf]
            · obtain ⟨b1, hb1⟩ := ex_bool (Wi (c.m 0) (-256) 256)
              have B1 := Lib.hid hb1
              clear hb1
              go_wp2_with fail
              refine (within_b B1.out _).mono ?_
              rintro e u1 ⟨rfl, bel⟩
              have BV' := Lib.hid (BV.out.trans (bel.mono BV.out.size))
              clear bel
              go_wp2
              refine ⟨?_, ?measure⟩
              refine ⟨_, _, _, _, _, _, _, _, _, _, _, ?rel, rfl⟩
              case rel => exact ⟨1, b1, by omega, rfl, by go_num, ⟨fun h => ⟨(IF.out.1 (by simp)).1, fun q hq => by
                rcases Nat.lt_or_ge q 0 with h1 | h1
                · exact (IF.out.1 (by simp)).2 q (by omega)
                · obtain rfl : q = 0 := by omega
                  exact B1.out.1 h⟩, fun h => B1.out.2 (h.2 0 (by omega))⟩, BV'.out⟩
              case measure => simp [intOf]
          · have hx3 := ix_num1
            cases b
            · go_wp2
              go_roundw
              case rel => exact ⟨2, false, by omega, rfl, by go_num, ⟨fun h => (by cases h), fun h => by have := IF.out.2 ⟨h.1, fun q hq => h.2 q (by omega)⟩; cases this⟩, BV.out⟩
              case measure => simp [intOf]
            · obtain ⟨b1, hb1⟩ := ex_bool (Wi (c.m 1) (-256) 256)
              have B1 := Lib.hid hb1
              clear hb1
              go_wp2_with fail
              refine (within_b B1.out _).mono ?_
              rintro e u1 ⟨rfl, bel⟩
              have BV' := Lib.hid (BV.out.trans (bel.mono BV.out.size))
              clear bel
              go_wp2
              refine ⟨?_, ?measure⟩
              refine ⟨_, _, _, _, _, _, _, _, _, _, _, ?rel, rfl⟩
              case rel => exact ⟨2, b1, by omega, rfl, by go_num, ⟨fun h => ⟨(IF.out.1 (by simp)).1, fun q hq => by
                rcases Nat.lt_or_ge q 1 with h1 | h1
                · exact (IF.out.1 (by simp)).2 q (by omega)
                · obtain rfl : q = 1 := by omega
                  exact B1.out.1 h⟩, fun h => B1.out.2 (h.2 1 (by omega))⟩, BV'.out⟩
              case measure => simp [intOf]
          · have hx3 := ix_num2
            cases b
            · go_wp2
              go_roundw
              case rel => exact ⟨3, false, by omega, rfl, by go_num, ⟨fun h => (by cases h), fun h => by have := IF.out.2 ⟨h.1, fun q hq => h.2 q (by omega)⟩; cases this⟩, BV.out⟩
              case measure => simp [intOf]
            · obtain ⟨b1, hb1⟩ := ex_bool (Wi (c.m 2) (-256) 256)
              have B1 := Lib.hid hb1
              clear hb1
              go_wp2_with fail
              refine (within_b B1.out _).mono ?_
              rintro e u1 ⟨rfl, bel⟩
              have BV' := Lib.hid (BV.out.trans (bel.mono BV.out.size))
              clear bel
              go_wp2
              refine ⟨?_, ?measure⟩
              refine ⟨_, _, _, _, _, _, _, _, _, _, _, ?rel, rfl⟩
              case rel => exact ⟨3, b1, by omega, rfl, by go_num, ⟨fun h => ⟨(IF.out.1 (by simp)).1, fun q hq => by
                rcases Nat.lt_or_ge q 2 with h1 | h1
                · exact (IF.out.1 (by simp)).2 q (by omega)
                · obtain rfl : q = 2 := by omega
                  exact B1.out.1 h⟩, fun h => B1.out.2 (h.2 2 (by omega))⟩, BV'.out⟩
              case measure => simp [intOf]
      · have hx1 := ix_row1 c
        have hrow : HasBlk (wr.alloc (.cells #[.int .i64 (c.m 3), .int .i64 (c.m 4), .int .i64 (c.m 5)] 28)) wr.heap.size 28 #[.int .i64 (c.m 3), .int .i64 (c.m 4), .int .i64 (c.m 5)] := hasBlk_new wr 28 #[.int .i64 (c.m 3), .int .i64 (c.m 4), .int .i64 (c.m 5)]
        go_upto_region 5 with fail
        have S5 := Lib.hid hrow
        have BV' := Lib.hid (BV.out.alloc BV.out.size (.cells #[.int .i64 (c.m 3), .int .i64 (c.m 4), .int .i64 (c.m 5)] 28))
        clear hrow BV
        have BV := Lib.hid BV'.out
        clear BV'
        generalize wr.alloc (.cells #[.int .i64 (c.m 3), .int .i64 (c.m 4), .int .i64 (c.m 5)] 28) = u0 at *
        generalize wr.heap.size = x5 at *
        have s5_ := S5.out.c3
        go_wp2
        clear s5_
        go_loopw [3, 38] (fun s3 s38 wr => ∃ (k : Nat) (b : Bool), k ≤ 3 ∧ s3 = .bool b ∧ s38 = .int .i64 k ∧ (b = true ↔ ((c.p.Ok ∧ Wi c.F 1 64 ∧ Wi c.N 256 4096 ∧ Wi c.W 1 64 ∧ Wi c.H 1 64) ∧ ∀ q, q < 3 + k → Wi (c.m q) (-256) 256)) ∧ Below w.heap.size w wr) (fun _ s38 wr => 3 - (intOf s38).toNat)
        case atStart => exact ⟨0, b, Nat.zero_le _, rfl, rfl, IF.out, BV.out⟩
        case round =>
          clear S5 BV IF
          obtain ⟨k, b, hk, rfl, rfl, hiff, hbel⟩ := hrel
          have IF := Lib.hid hiff
          have BV := Lib.hid hbel
          clear hiff hbel
          obtain hk3 | rfl | rfl | rfl : k = 3 ∨ k = 0 ∨ k = 1 ∨ k = 2 := by omega
          · subst hk3
            go_wp2
            go_roundw
            case rel => exact ⟨2, b, by omega, rfl, by go_num, IF.out, BV.out⟩
            case measure => simp [intOf]
          · have hx3 := ix_num0
            cases b
            · go_wp2
              go_roundw
              case rel => exact ⟨1, false, by omega, rfl, by go_num, ⟨fun h => (by cases h), fun h => by have := IF.out.2 ⟨h.1, fun q hq => h.2 q (by omega)⟩; cases this⟩, BV.out⟩
              case measure => simp [intOf]
            · obtain ⟨b1, hb1⟩ := ex_bool (Wi (c.m 3) (-256) 256)
              have B1 := Lib.hid hb1
              clear hb1
              go_wp2_with fail
              refine (within_b B1.out _).mono ?_
              rintro e u1 ⟨rfl, bel⟩
              have BV' := Lib.hid (BV.out.trans (bel.mono BV.out.size))
              clear bel
              go_wp2
              refine ⟨?_, ?measure⟩
              refine ⟨_, _, _, _, _, _, _, _, _, _, _, ?rel, rfl⟩
              case rel => exact ⟨1, b1, by omega, rfl, by go_num, ⟨fun h => ⟨(IF.out.1 (by simp)).1, fun q hq => by
                rcases Nat.lt_or_ge q 3 with h1 | h1
                · exact (IF.out.1 (by simp)).2 q (by omega)
                · obtain rfl : q = 3 := by omega
                  exact B1.out.1 h⟩, fun h => B1.out.2 (h.2 3 (by omega))⟩, BV'.out⟩
              case measure => simp [intOf]
          · have hx3 := ix_num1
            cases b
            · go_wp2
              go_roundw
              case rel => exact ⟨2, false, by omega, rfl, by go_num, ⟨fun h => (by cases h), fun h => by have := IF.out.2 ⟨h.1, fun q hq => h.2 q (by omega)⟩; cases this⟩, BV.out⟩
              case measure => simp [intOf]
            · obtain ⟨b1, hb1⟩ := ex_bool (Wi (c.m 4) (-256) 256)
              have B1 := Lib.hid hb1
              clear hb1
              go_wp2_with fail
              refine (within_b B1.out _).mono ?_
              rintro e u1 ⟨rfl, bel⟩
              have BV' := Lib.hid (BV.out.trans (bel.mono BV.out.size))
              clear bel
              go_wp2
              refine ⟨?_, ?measure⟩
              refine ⟨_, _, _, _, _, _, _, _, _, _, _, ?rel, rfl⟩
              case rel => exact ⟨2, b1, by omega, rfl, by go_num, ⟨fun h => ⟨(IF.out.1 (by simp)).1, fun q hq => by
                rcases Nat.lt_or_ge q 4 with h1 | h1
                · exact (IF.out.1 (by simp)).2 q (by omega)
                · obtain rfl : q = 4 := by omega
                  exact B1.out.1 h⟩, fun h => B1.out.2 (h.2 4 (by omega))⟩, BV'.out⟩
              case measure => simp [intOf]
          · have hx3 := ix_num2
            cases b
            · go_wp2
              go_roundw
              case rel => exact ⟨3, false, by omega, rfl, by go_num, ⟨fun h => (by cases h), fun h => by have := IF.out.2 ⟨h.1, fun q hq => h.2 q (by omega)⟩; cases this⟩, BV.out⟩
              case measure => simp [intOf]
            · obtain ⟨b1, hb1⟩ := ex_bool (Wi (c.m 5) (-256) 256)
              have B1 := Lib.hid hb1
              clear hb1
              go_wp2_with fail
              refine (within_b B1.out _).mono ?_
              rintro e u1 ⟨rfl, bel⟩
              have BV' := Lib.hid (BV.out.trans (bel.mono BV.out.size))
              clear bel
              go_wp2
              refine ⟨?_, ?measure⟩
              refine ⟨_, _, _, _, _, _, _, _, _, _, _, ?rel, rfl⟩
              case rel => exact ⟨3, b1, by omega, rfl, by go_num, ⟨fun h => ⟨(IF.out.1 (by simp)).1, fun q hq => by
                rcases Nat.lt_or_ge q 5 with h1 | h1
                · exact (IF.out.1 (by simp)).2 q (by omega)
                · obtain rfl : q = 5 := by omega
                  exact B1.out.1 h⟩, fun h => B1.out.2 (h.2 5 (by omega))⟩, BV'.out⟩
              case measure => simp [intOf]
      · have hx1 := ix_row2 c
        have hrow : HasBlk (wr.alloc (.cells #[.int .i64 (c.m 6), .int .i64 (c.m 7), .int .i64 (c.m 8)] 28)) wr.heap.size 28 #[.int .i64 (c.m 6), .int .i64 (c.m 7), .int .i64 (c.m 8)] := hasBlk_new wr 28 #[.int .i64 (c.m 6), .int .i64 (c.m 7), .int .i64 (c.m 8)]
        go_upto_region 5 with fail
        have S5 := Lib.hid hrow
        have BV' := Lib.hid (BV.out.alloc BV.out.size (.cells #[.int .i64 (c.m 6), .int .i64 (c.m 7), .int .i64 (c.m 8)] 28))
        clear hrow BV
        have BV := Lib.hid BV'.out
        clear BV'
        generalize wr.alloc (.cells #[.int .i64 (c.m 6), .int .i64 (c.m 7), .int .i64 (c.m 8)] 28) = u0 at *
        generalize wr.heap.size = x5 at *
        have s5_ := S5.out.c3
        go_wp2
        clear s5_
        go_loopw [3, 38] (fun s3 s38 wr => ∃ (k : Nat) (b : Bool), k ≤ 3 ∧ s3 = .bool b ∧ s38 = .int .i64 k ∧ (b = true ↔ ((c.p.Ok ∧ Wi c.F 1 64 ∧ Wi c.N 256 4096 ∧ Wi c.W 1 64 ∧ Wi c.H 1 64) ∧ ∀ q, q < 6 + k → Wi (c.m q) (-256) 256)) ∧ Below w.heap.size w wr) (fun _ s38 wr => 3 - (intOf s38).toNat)
        case atStart => exact ⟨0, b, Nat.zero_le _, rfl, rfl, IF.out, BV.out⟩
        case round =>
          clear S5 BV IF
          obtain ⟨k, b, hk, rfl, rfl, hiff, hbel⟩ := hrel
          have IF := Lib.hid hiff
          have BV := Lib.hid hbel
          clear hiff hbel
          obtain hk3 | rfl | rfl | rfl : k = 3 ∨ k = 0 ∨ k = 1 ∨ k = 2 := by omega
          · subst hk3
            go_wp2
            go_roundw
            case rel => exact ⟨3, b, by omega, rfl, by go_num, IF.out, BV.out⟩
            case measure => simp [intOf]
          · have hx3 := ix_num0
            cases b
            · go_wp2
              go_roundw
              case rel => exact ⟨1, false, by omega, rfl, by go_num, ⟨fun h => (by cases h), fun h => by have := IF.out.2 ⟨h.1, fun q hq => h.2 q (by omega)⟩; cases this⟩, BV.out⟩
              case measure => simp [intOf]
            · obtain ⟨b1, hb1⟩ := ex_bool (Wi (c.m 6) (-256) 256)
              have B1 := Lib.hid hb1
              clear hb1
              go_wp2_with fail
              refine (within_b B1.out _).mono ?_
              rintro e u1 ⟨rfl, bel⟩
              have BV' := Lib.hid (BV.out.trans (bel.mono BV.out.size))
              clear bel
              go_wp2
              refine ⟨?_, ?measure⟩
              refine ⟨_, _, _, _, _, _, _, _, _, _, _, ?rel, rfl⟩
              case rel => exact ⟨1, b1, by omega, rfl, by go_num, ⟨fun h => ⟨(IF.out.1 (by simp)).1, fun q hq => by
                rcases Nat.lt_or_ge q 6 with h1 | h1
                · exact (IF.out.1 (by simp)).2 q (by omega)
                · obtain rfl : q = 6 := by omega
                  exact B1.out.1 h⟩, fun h => B1.out.2 (h.2 6 (by omega))⟩, BV'.out⟩
              case measure => simp [intOf]
          · have hx3 := ix_num1
            cases b
            · go_wp2
              go_roundw
              case rel => exact ⟨2, false, by omega, rfl, by go_num, ⟨fun h => (by cases h), fun h => by have := IF.out.2 ⟨h.1, fun q hq => h.2 q (by omega)⟩; cases this⟩, BV.out⟩
              case measure => simp [intOf]
            · obtain ⟨b1, hb1⟩ := ex_bool (Wi (c.m 7) (-256) 256)
              have B1 := Lib.hid hb1
              clear hb1
              go_wp2_with fail
              refine (within_b B1.out _).mono ?_
              rintro e u1 ⟨rfl, bel⟩
              have BV' := Lib.hid (BV.out.trans (bel.mono BV.out.size))
              clear bel
              go_wp2
              refine ⟨?_, ?measure⟩
              refine ⟨_, _, _, _, _, _, _, _, _, _, _, ?rel, rfl⟩
              case rel => exact ⟨2, b1, by omega, rfl, by go_num, ⟨fun h => ⟨(IF.out.1 (by simp)).1, fun q hq => by
                rcases Nat.lt_or_ge q 7 with h1 | h1
                · exact (IF.out.1 (by simp)).2 q (by omega)
                · obtain rfl : q = 7 := by omega
                  exact B1.out.1 h⟩, fun h => B1.out.2 (h.2 7 (by omega))⟩, BV'.out⟩
              case measure => simp [intOf]
          · have hx3 := ix_num2
            cases b
            · go_wp2
              go_roundw
              case rel => exact ⟨3, false, by omega, rfl, by go_num, ⟨fun h => (by cases h), fun h => by have := IF.out.2 ⟨h.1, fun q hq => h.2 q (by omega)⟩; cases this⟩, BV.out⟩
              case measure => simp [intOf]
            · obtain ⟨b1, hb1⟩ := ex_bool (Wi (c.m 8) (-256) 256)
              have B1 := Lib.hid hb1
              clear hb1
              go_wp2_with fail
              refine (within_b B1.out _).mono ?_
              rintro e u1 ⟨rfl, bel⟩
              have BV' := Lib.hid (BV.out.trans (bel.mono BV.out.size))
              clear bel
              go_wp2
              refine ⟨?_, ?measure⟩
              refine ⟨_, _, _, _, _, _, _, _, _, _, _, ?rel, rfl⟩
              case rel => exact ⟨3, b1, by omega, rfl, by go_num, ⟨fun h => ⟨(IF.out.1 (by simp)).1, fun q hq => by
                rcases Nat.lt_or_ge q 8 with h1 | h1
                · exact (IF.out.1 (by simp)).2 q (by omega)
                · obtain rfl : q = 8 := by omega
                  exact B1.out.1 h⟩, fun h => B1.out.2 (h.2 8 (by omega))⟩, BV'.out⟩
              case measure => simp [intOf]
end Go.Proofs.YtemopgpcpjnmkaaDoor
