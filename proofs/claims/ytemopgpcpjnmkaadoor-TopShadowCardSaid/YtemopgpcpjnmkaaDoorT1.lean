/- top: numbers: rounding, spans, bounds. -/
import Derived.Test.YtemopgpcpjnmkaaDoorProg
import Derived.Test.YtemopgpcpjnmkaaDoorOwn
import Derived.Test.YtemopgpcpjnmkaaDoorRow
import Derived.Test.YtemopgpcpjnmkaaDoorHeldE2
import Derived.Test.YtemopgpcpjnmkaaDoorQuiet
import Derived.Test.YtemopgpcpjnmkaaDoorCel
import Derived.BigRegion
import Derived.IntWalk
import Derived.Test.YtemopgpcpjnmkaaDoorGeo
import Derived.Deep.CutRange
import Derived.Deep.DeepCutAuto
namespace Go.Proofs.YtemopgpcpjnmkaaDoor
open Go.RowKit
set_option linter.unusedVariables false
theorem floor_eq {a b : Int} (hb : 1 ≤ b) : a / b = if a.tmod b < 0 then a.tdiv b - 1 else a.tdiv b := by
  have h1 := Int.mul_tdiv_add_tmod a b
  have h2 := Int.tmod_lt_of_pos a (show 0 < b by omega)
  have h3 : -b < a.tmod b := by
    have := Int.tmod_lt_of_pos (-a) (show 0 < b by omega)
    rw [Int.neg_tmod] at this
    omega
  generalize a.tdiv b = q at *
  generalize a.tmod b = r at *
  split
  · refine Int.ediv_eq_iff_of_pos (show 0 < b by omega) |>.2 ⟨?_, ?_⟩
    · rw [Int.sub_mul, Int.mul_comm q b]; omega
    · rw [Int.sub_mul, Int.mul_comm q b]; omega
  · refine Int.ediv_eq_iff_of_pos (show 0 < b by omega) |>.2 ⟨?_, ?_⟩
    · rw [Int.mul_comm q b]; omega
    · rw [Int.mul_comm q b]; omega
theorem ceil_eq {a b : Int} (hb : 1 ≤ b) : -(-a / b) = if 0 < a.tmod b then a.tdiv b + 1 else a.tdiv b := by
  rw [floor_eq hb, Int.neg_tmod, Int.neg_tdiv]
  split <;> split <;> omega

set_option maxRecDepth 100000 in
set_option maxHeartbeats 8000000 in
theorem floor_any (a b : Int) (hb : 1 ≤ b) (hb2 : b ≤ 4611686018427387904) (ha : -4611686018427387904 ≤ a ∧ a ≤ 4611686018427387904) (w : World) : Calls Tryd.prog 29 #[.int .i64 a, .int .i64 b] w fun e w' => e = .returned (.tuple #[.int .i64 (a / b), .int .i64 0]) ∧ Below w.heap.size w w' := by
  have hb0 : ¬ b < 1 := by omega
  have g0 : decide (b < 1) = false := decide_eq_false hb0
  have nz : ¬ b = 0 := by omega
  have hq1 := Int.natAbs_tdiv_le_natAbs a b
  have hr1 := Int.tmod_lt_of_pos a (show 0 < b by omega)
  have hr2 : -b < a.tmod b := by
    have := Int.tmod_lt_of_pos (-a) (show 0 < b by omega)
    rw [Int.neg_tmod] at this
    omega
  have HV := Lib.hid (floor_eq (a := a) hb)
  obtain ⟨q, hq⟩ : ∃ q, a.tdiv b = q := ⟨_, rfl⟩
  obtain ⟨r, hr⟩ : ∃ r, a.tmod b = r := ⟨_, rfl⟩
  rw [hq, hr] at HV
  rw [hq] at hq1
  rw [hr] at hr1 hr2
  have w1 : IntKind.i64.wrap q = q := IntWalk.i64_in _ (by omega)
  have w2 : IntKind.i64.wrap r = r := IntWalk.i64_in _ (by omega)
  have w3 : IntKind.i64.wrap (q - 1) = q - 1 := IntWalk.i64_in _ (by omega)
  go_enter Tryd.func29, Tryd.ntmps29
  go_upto_region 3 with fail
  refine wp_region_quiet_bw (by kernel_rfl) (by kernel_rfl) ?_
  repeat (go_big_quiet_step (fail))
  refine wpQuiet_nil ?_
  intro _ hw'
  obtain ⟨pq, hw''⟩ := hw'
  subst hw''
  have BP := Lib.hid pq.h
  generalize pq.W = v1 at *
  clear pq
  by_cases hr0 : (r < 0)
  · have g1 : decide (r < 0) = true := decide_eq_true hr0
    have HE := Lib.hid (show a / b = q - 1 by rw [HV.out, if_pos hr0])
    clear hq hr hr0
    go_wp2
    go_ret2
    exact ⟨by rw [HE.out]; rfl, BP.out⟩
  · have g1 : decide (r < 0) = false := decide_eq_false hr0
    have HE := Lib.hid (show a / b = q by rw [HV.out, if_neg hr0])
    clear hq hr hr0
    go_wp2
    go_ret2
    exact ⟨by rw [HE.out]; rfl, BP.out⟩

set_option maxRecDepth 100000 in
set_option maxHeartbeats 8000000 in
theorem ceil_any (a b : Int) (hb : 1 ≤ b) (hb2 : b ≤ 4611686018427387904) (ha : -4611686018427387904 ≤ a ∧ a ≤ 4611686018427387904) (w : World) : Calls Tryd.prog 28 #[.int .i64 a, .int .i64 b] w fun e w' => e = .returned (.tuple #[.int .i64 (-(-a / b)), .int .i64 0]) ∧ Below w.heap.size w w' := by
  have hb0 : ¬ b < 1 := by omega
  have g0 : decide (b < 1) = false := decide_eq_false hb0
  have nz : ¬ b = 0 := by omega
  have hq1 := Int.natAbs_tdiv_le_natAbs a b
  have hr1 := Int.tmod_lt_of_pos a (show 0 < b by omega)
  have hr2 : -b < a.tmod b := by
    have := Int.tmod_lt_of_pos (-a) (show 0 < b by omega)
    rw [Int.neg_tmod] at this
    omega
  have HV := Lib.hid (ceil_eq (a := a) hb)
  obtain ⟨q, hq⟩ : ∃ q, a.tdiv b = q := ⟨_, rfl⟩
  obtain ⟨r, hr⟩ : ∃ r, a.tmod b = r := ⟨_, rfl⟩
  rw [hq, hr] at HV
  rw [hq] at hq1
  rw [hr] at hr1 hr2
  have w1 : IntKind.i64.wrap q = q := IntWalk.i64_in _ (by omega)
  have w2 : IntKind.i64.wrap r = r := IntWalk.i64_in _ (by omega)
  have w3 : IntKind.i64.wrap (q + 1) = q + 1 := IntWalk.i64_in _ (by omega)
  go_enter Tryd.func28, Tryd.ntmps28
  go_upto_region 3 with fail
  refine wp_region_quiet_bw (by kernel_rfl) (by kernel_rfl) ?_
  repeat (go_big_quiet_step (fail))
  refine wpQuiet_nil ?_
  intro _ hw'
  obtain ⟨pq, hw''⟩ := hw'
  subst hw''
  have BP := Lib.hid pq.h
  generalize pq.W = v1 at *
  clear pq
  by_cases hr0 : (0 < r)
  · have g1 : decide (0 < r) = true := decide_eq_true hr0
    have HE := Lib.hid (show -(-a / b) = q + 1 by rw [HV.out, if_pos hr0])
    clear hq hr hr0
    go_wp2
    go_ret2
    exact ⟨by rw [HE.out]; rfl, BP.out⟩
  · have g1 : decide (0 < r) = false := decide_eq_false hr0
    have HE := Lib.hid (show -(-a / b) = q by rw [HV.out, if_neg hr0])
    clear hq hr hr0
    go_wp2
    go_ret2
    exact ⟨by rw [HE.out]; rfl, BP.out⟩

set_option maxRecDepth 100000 in
set_option maxHeartbeats 8000000 in
theorem within_any (n lo hi : Int) (w : World) : Calls Tryd.prog 15 #[.int .i64 n, .int .i64 lo, .int .i64 hi] w fun e w' => e = .returned (.bool (decide (lo ≤ n) && decide (n ≤ hi))) ∧ Below w.heap.size w w' := by
  by_cases h1 : lo ≤ n
  rotate_left
  · have g1 : decide (lo ≤ n) = false := decide_eq_false h1
    rw [g1, Bool.false_and]
    go_enter Tryd.func15, Tryd.ntmps15
    go_wp2
    go_ret
    exact ⟨rfl, Below.refl _ _⟩
  have g1 : decide (lo ≤ n) = true := decide_eq_true h1
  by_cases h2 : n ≤ hi
  · have g2 : decide (n ≤ hi) = true := decide_eq_true h2
    rw [g1, g2]
    go_enter Tryd.func15, Tryd.ntmps15
    go_wp2
    go_ret
    exact ⟨rfl, Below.refl _ _⟩
  have g2 : decide (n ≤ hi) = false := decide_eq_false h2
  rw [g1, g2]
  go_enter Tryd.func15, Tryd.ntmps15
  go_wp2
  go_ret
  exact ⟨rfl, Below.refl _ _⟩
/-- A span that may be. -/
def SpOk (lo hi : Int) : Prop := -1099511627776 ≤ lo ∧ hi ≤ 1099511627776 ∧ lo ≤ hi

set_option maxRecDepth 100000 in
set_option maxHeartbeats 8000000 in
theorem fcheck_ok (lo hi : Int) (h : SpOk lo hi) (w : World) : Calls Tryd.prog 58 #[.agg #[.int .i64 lo, .int .i64 hi]] w fun e w' => e = .returned (.int .i64 0) ∧ Below w.heap.size w w' := by
  obtain ⟨h1, h2, h3⟩ := h
  have g1 : decide (lo < -1099511627776) = false := decide_eq_false (by omega)
  have g2 : decide (1099511627776 < hi) = false := decide_eq_false (by omega)
  have g3 : decide (hi < lo) = false := decide_eq_false (by omega)
  have B0 := Lib.hid ((Below.refl w.heap.size w).alloc (Nat.le_refl _) (.cells #[.int .i64 lo, .int .i64 hi] 109))
  clear h1 h2 h3
  go_enter Tryd.func58, Tryd.ntmps58
  go_wp2
  go_ret
  exact ⟨rfl, B0.out⟩

set_option maxRecDepth 100000 in
set_option maxHeartbeats 8000000 in
theorem both_ok (a b c d : Int) (h : SpOk a b) (k : SpOk c d) (w : World) : Calls Tryd.prog 60 #[.agg #[.int .i64 a, .int .i64 b], .agg #[.int .i64 c, .int .i64 d]] w fun e w' => e = .returned (.int .i64 0) ∧ Below w.heap.size w w' := by
  have B0 := Lib.hid (((Below.refl w.heap.size w).alloc (Nat.le_refl _) (.cells #[.int .i64 a, .int .i64 b] 109)).alloc (by simp) (.cells #[.int .i64 c, .int .i64 d] 109))
  have P1 := Lib.hid (show HasBlk ((w.alloc (.cells #[.int .i64 a, .int .i64 b] 109)).alloc (.cells #[.int .i64 c, .int .i64 d] 109)) (w.heap.size + 1) 109 #[.int .i64 c, .int .i64 d] by simpa using hasBlk_new (w.alloc (.cells #[.int .i64 a, .int .i64 b] 109)) 109 #[.int .i64 c, .int .i64 d])
  have KX := Lib.hid (fcheck_ok a b h ((w.alloc (.cells #[.int .i64 a, .int .i64 b] 109)).alloc (.cells #[.int .i64 c, .int .i64 d] 109)))
  have KY := Lib.hid (fun W => fcheck_ok c d k W)
  clear h k
  go_enter Tryd.func60, Tryd.ntmps60
  go_wp2_with fail
  refine KX.out.mono ?_
  rintro e v1 ⟨rfl, bel⟩
  have P := Lib.hid (P1.out.below bel)
  have HB := Lib.hid (B0.out.trans (bel.mono B0.out.size))
  clear KX P1 B0 bel
  have p_ := P.out.c2
  go_wp2_with fail
  refine (KY.out _).mono ?_
  rintro e v2 ⟨rfl, bel⟩
  have HE := Lib.hid (HB.out.trans (bel.mono HB.out.size))
  clear KY bel HB
  go_wp2
  go_ret
  exact ⟨rfl, HE.out⟩
theorem bld_sp (a b : Int) (w : World) : (Instr.build 109 #[(0, .int .i64 a), (1, .int .i64 b)]).run Tryd.prog w = .ok (.agg #[.int .i64 a, .int .i64 b]) w :=
  run_build w 109 _ #[.int .i64 a, .int .i64 b] (by kernel_rfl)

set_option maxRecDepth 100000 in
set_option maxHeartbeats 8000000 in
theorem ranged_ok (a b : Int) (h : SpOk a b) (w : World) : Calls Tryd.prog 59 #[.int .i64 a, .int .i64 b] w fun e w' => e = .returned (.tuple #[.agg #[.int .i64 a, .int .i64 b], .int .i64 0]) ∧ Below w.heap.size w w' := by
  have hb9 := bld_sp a b
  have B0 := Lib.hid (((Below.refl w.heap.size w).alloc (Nat.le_refl _) (.cells #[.int .i64 0, .int .i64 0] 109)).alloc (by simp) (.cells #[.int .i64 a, .int .i64 b] 109))
  have P1 := Lib.hid ((hasBlk_new w 109 #[.int .i64 0, .int .i64 0]).alloc (.cells #[.int .i64 a, .int .i64 b] 109))
  have P2 := Lib.hid (show HasBlk ((w.alloc (.cells #[.int .i64 0, .int .i64 0] 109)).alloc (.cells #[.int .i64 a, .int .i64 b] 109)) (w.heap.size + 1) 109 #[.int .i64 a, .int .i64 b] by simpa using hasBlk_new (w.alloc (.cells #[.int .i64 0, .int .i64 0] 109)) 109 #[.int .i64 a, .int .i64 b])
  have KX := Lib.hid (fcheck_ok a b h ((w.alloc (.cells #[.int .i64 0, .int .i64 0] 109)).alloc (.cells #[.int .i64 a, .int .i64 b] 109)))
  clear h
  go_enter Tryd.func59, Tryd.ntmps59
  go_wp2_with fail
  refine KX.out.mono ?_
  rintro e v1 ⟨rfl, bel⟩
  have R := Lib.hid (P1.out.below bel)
  have Q := Lib.hid (P2.out.below bel)
  have HB := Lib.hid (B0.out.trans (bel.mono B0.out.size))
  clear KX P1 P2 B0 bel hb9
  have q_ := Q.out.c2
  have r_ := R.out.f2
  go_wp2
  refine bodyPost_ret (v := .tuple #[.agg #[.int .i64 a, .int .i64 b], .int .i64 0]) (by simp [results, Tryd.results59, go_sem, *]) rfl ⟨rfl, ?_⟩
  exact Below.setCell (Below.setCell HB.out (Nat.le_refl _) _) (Nat.le_refl _) _

set_option maxRecDepth 100000 in
set_option maxHeartbeats 8000000 in
theorem add_ok (a b c d : Int) (h : SpOk a b) (k : SpOk c d) (hs : SpOk (a + c) (b + d)) (w : World) : Calls Tryd.prog 40 #[.agg #[.int .i64 a, .int .i64 b], .agg #[.int .i64 c, .int .i64 d]] w fun e w' => e = .returned (.tuple #[.agg #[.int .i64 (a + c), .int .i64 (b + d)], .int .i64 0]) ∧ Below w.heap.size w w' := by
  have w1 : IntKind.i64.wrap (a + c) = a + c := IntWalk.i64_in _ (by unfold SpOk at h k hs; omega)
  have w2 : IntKind.i64.wrap (b + d) = b + d := IntWalk.i64_in _ (by unfold SpOk at h k hs; omega)
  have B0 := Lib.hid ((((Below.refl w.heap.size w).alloc (Nat.le_refl _) (.cells #[.int .i64 a, .int .i64 b] 109)).alloc (by simp) (.cells #[.int .i64 c, .int .i64 d] 109)).alloc (by first | omega | (simp; done) | (simp; omega)) (.cells #[.int .i64 0, .int .i64 0] 109))
  have P1 := Lib.hid (((hasBlk_new w 109 #[.int .i64 a, .int .i64 b]).alloc (.cells #[.int .i64 c, .int .i64 d] 109)).alloc (.cells #[.int .i64 0, .int .i64 0] 109))
  have P2 := Lib.hid (show HasBlk (((w.alloc (.cells #[.int .i64 a, .int .i64 b] 109)).alloc (.cells #[.int .i64 c, .int .i64 d] 109)).alloc (.cells #[.int .i64 0, .int .i64 0] 109)) (w.heap.size + 1) 109 #[.int .i64 c, .int .i64 d] by simpa using (hasBlk_new (w.alloc (.cells #[.int .i64 a, .int .i64 b] 109)) 109 #[.int .i64 c, .int .i64 d]).alloc (.cells #[.int .i64 0, .int .i64 0] 109))
  have P3 := Lib.hid (show HasBlk (((w.alloc (.cells #[.int .i64 a, .int .i64 b] 109)).alloc (.cells #[.int .i64 c, .int .i64 d] 109)).alloc (.cells #[.int .i64 0, .int .i64 0] 109)) (w.heap.size + 1 + 1) 109 #[.int .i64 0, .int .i64 0] by simpa using hasBlk_new ((w.alloc (.cells #[.int .i64 a, .int .i64 b] 109)).alloc (.cells #[.int .i64 c, .int .i64 d] 109)) 109 #[.int .i64 0, .int .i64 0])
  have KX := Lib.hid (both_ok a b c d h k (((w.alloc (.cells #[.int .i64 a, .int .i64 b] 109)).alloc (.cells #[.int .i64 c, .int .i64 d] 109)).alloc (.cells #[.int .i64 0, .int .i64 0] 109)))
  have KY := Lib.hid (fun W => ranged_ok (a + c) (b + d) hs W)
  clear h k hs
  go_enter Tryd.func40, Tryd.ntmps40
  go_wp2_with fail
  refine KX.out.mono ?_
  rintro e v1 ⟨rfl, bel⟩
  have Q1 := Lib.hid (P1.out.below bel)
  have Q2 := Lib.hid (P2.out.below bel)
  have Q3 := Lib.hid (P3.out.below bel)
  have HB := Lib.hid (B0.out.trans (bel.mono B0.out.size))
  clear KX P1 P2 P3 B0 bel
  have q1_ := Q1.out.c2
  have q2_ := Q2.out.c2
  go_wp2_with fail
  refine (KY.out _).mono ?_
  rintro e v2 ⟨rfl, bel⟩
  clear q1_
  clear q2_
  have R := Lib.hid (Q3.out.below bel)
  have HE := Lib.hid (HB.out.trans (bel.mono HB.out.size))
  clear KY bel HB Q1 Q2 Q3 w1 w2
  have r_ := R.out.f2
  go_wp2
  refine bodyPost_ret (v := .tuple #[.agg #[.int .i64 (a + c), .int .i64 (b + d)], .int .i64 0]) (by simp [results, Tryd.results40, go_sem, *]) rfl ⟨rfl, ?_⟩
  exact Below.setCell (Below.setCell HE.out (by first | omega | (simp; done) | (simp; omega)) _) (by first | omega | (simp; done) | (simp; omega)) _

set_option maxRecDepth 100000 in
set_option maxHeartbeats 16000000 in
theorem scale_ok (a b k : Int) (h : SpOk a b) (hk : -1048576 ≤ k ∧ k ≤ 1048576) (hs : SpOk (tlo k a b) (thi k a b)) (w : World) : Calls Tryd.prog 39 #[.agg #[.int .i64 a, .int .i64 b], .int .i64 k] w fun e w' => e = .returned (.tuple #[.agg #[.int .i64 (tlo k a b), .int .i64 (thi k a b)], .int .i64 0]) ∧ Below w.heap.size w w' := by
  have g1 : decide (k < -1048576) = false := decide_eq_false (by omega)
  have g2 : decide (1048576 < k) = false := decide_eq_false (by omega)
  obtain ⟨p, hp⟩ : ∃ p, k * a = p := ⟨_, rfl⟩
  obtain ⟨q, hq⟩ : ∃ q, k * b = q := ⟨_, rfl⟩
  have HPQ : (k < 0 ∧ tlo k a b = q ∧ thi k a b = p) ∨ (¬ k < 0 ∧ tlo k a b = p ∧ thi k a b = q) := by
    unfold tlo thi
    rw [hp, hq]
    by_cases q0 : k < 0
    · exact .inl ⟨q0, if_pos q0, if_pos q0⟩
    · exact .inr ⟨q0, if_neg q0, if_neg q0⟩
  have B0 := Lib.hid (((Below.refl w.heap.size w).alloc (Nat.le_refl _) (.cells #[.int .i64 a, .int .i64 b] 109)).alloc (by simp) (.cells #[.int .i64 0, .int .i64 0] 109))
  have P1 := Lib.hid ((hasBlk_new w 109 #[.int .i64 a, .int .i64 b]).alloc (.cells #[.int .i64 0, .int .i64 0] 109))
  have P3 := Lib.hid (show HasBlk ((w.alloc (.cells #[.int .i64 a, .int .i64 b] 109)).alloc (.cells #[.int .i64 0, .int .i64 0] 109)) (w.heap.size + 1) 109 #[.int .i64 0, .int .i64 0] by simpa using hasBlk_new (w.alloc (.cells #[.int .i64 a, .int .i64 b] 109)) 109 #[.int .i64 0, .int .i64 0])
  have KX := Lib.hid (fcheck_ok a b h ((w.alloc (.cells #[.int .i64 a, .int .i64 b] 109)).alloc (.cells #[.int .i64 0, .int .i64 0] 109)))
  clear h hk
  rcases HPQ with ⟨q0, e1, e2⟩ | ⟨q0, e1, e2⟩
  · have g3 : decide (k < 0) = true := decide_eq_true q0
    rw [e1, e2] at hs ⊢
    have w1 : IntKind.i64.wrap p = p := IntWalk.i64_in _ (by unfold SpOk at hs; omega)
    have w2 : IntKind.i64.wrap q = q := IntWalk.i64_in _ (by unfold SpOk at hs; omega)
    have KY := Lib.hid (fun W => ranged_ok q p hs W)
    clear hs e1 e2 q0
    go_enter Tryd.func39, Tryd.ntmps39
    go_wp2_with fail
    refine KX.out.mono ?_
    rintro e v1 ⟨rfl, bel⟩
    have Q1 := Lib.hid (P1.out.below bel)
    have Q3 := Lib.hid (P3.out.below bel)
    have HB := Lib.hid (B0.out.trans (bel.mono B0.out.size))
    clear KX P1 P3 B0 bel
    have q1_ := Q1.out.c2
    go_upto_region 6 with fail
    clear q1_
    have e0 := fun b : BW v1 => BW.cell (Q1.out.at 0 rfl) Q1.out.lt b
    have e1 := fun b : BW v1 => BW.cell (Q1.out.at 1 rfl) Q1.out.lt b
    refine wp_region_quiet_bw (by kernel_rfl) (by kernel_rfl) ?_
    repeat (go_big_quiet_step (fail))
    refine wpQuiet_nil ?_
    intro _ hw'
    obtain ⟨pq, hw''⟩ := hw'
    subst hw''
    clear e0 e1
    have Q3n := Lib.hid (Q3.out.below pq.h)
    have HBn := Lib.hid (HB.out.trans (pq.h.mono HB.out.size))
    clear Q1 Q3 HB
    have Q3 := Lib.hid Q3n.out
    have HB := Lib.hid HBn.out
    clear Q3n HBn
    generalize pq.W = v2 at *
    clear pq hp hq w1 w2
    go_wp2_with fail
    refine (KY.out _).mono ?_
    rintro e v3 ⟨rfl, bel⟩
    have R := Lib.hid (Q3.out.below bel)
    have HE := Lib.hid (HB.out.trans (bel.mono HB.out.size))
    clear KY bel HB Q3
    have r_ := R.out.f2
    go_wp2
    refine bodyPost_ret (v := .tuple #[.agg #[.int .i64 q, .int .i64 p], .int .i64 0]) (by simp [results, Tryd.results39, go_sem, *]) rfl ⟨rfl, ?_⟩
    exact Below.setCell (Below.setCell HE.out (by first | omega | (simp; done) | (simp; omega)) _) (by first | omega | (simp; done) | (simp; omega)) _
  · have g3 : decide (k < 0) = false := decide_eq_false q0
    rw [e1, e2] at hs ⊢
    have w1 : IntKind.i64.wrap p = p := IntWalk.i64_in _ (by unfold SpOk at hs; omega)
    have w2 : IntKind.i64.wrap q = q := IntWalk.i64_in _ (by unfold SpOk at hs; omega)
    have KY := Lib.hid (fun W => ranged_ok p q hs W)
    clear hs e1 e2 q0
    go_enter Tryd.func39, Tryd.ntmps39
    go_wp2_with fail
    refine KX.out.mono ?_
    rintro e v1 ⟨rfl, bel⟩
    have Q1 := Lib.hid (P1.out.below bel)
    have Q3 := Lib.hid (P3.out.below bel)
    have HB := Lib.hid (B0.out.trans (bel.mono B0.out.size))
    clear KX P1 P3 B0 bel
    have q1_ := Q1.out.c2
    go_upto_region 6 with fail
    clear q1_
    have e0 := fun b : BW v1 => BW.cell (Q1.out.at 0 rfl) Q1.out.lt b
    have e1 := fun b : BW v1 => BW.cell (Q1.out.at 1 rfl) Q1.out.lt b
    refine wp_region_quiet_bw (by kernel_rfl) (by kernel_rfl) ?_
    repeat (go_big_quiet_step (fail))
    refine wpQuiet_nil ?_
    intro _ hw'
    obtain ⟨pq, hw''⟩ := hw'
    subst hw''
    clear e0 e1
    have Q3n := Lib.hid (Q3.out.below pq.h)
    have HBn := Lib.hid (HB.out.trans (pq.h.mono HB.out.size))
    clear Q1 Q3 HB
    have Q3 := Lib.hid Q3n.out
    have HB := Lib.hid HBn.out
    clear Q3n HBn
    generalize pq.W = v2 at *
    clear pq hp hq w1 w2
    go_wp2_with fail
    refine (KY.out _).mono ?_
    rintro e v3 ⟨rfl, bel⟩
    have R := Lib.hid (Q3.out.below bel)
    have HE := Lib.hid (HB.out.trans (bel.mono HB.out.size))
    clear KY bel HB Q3
    have r_ := R.out.f2
    go_wp2
    refine bodyPost_ret (v := .tuple #[.agg #[.int .i64 p, .int .i64 q], .int .i64 0]) (by simp [results, Tryd.results39, go_sem, *]) rfl ⟨rfl, ?_⟩
    exact Below.setCell (Below.setCell HE.out (by first | omega | (simp; done) | (simp; omega)) _) (by first | omega | (simp; done) | (simp; omega)) _

set_option maxRecDepth 100000 in
set_option maxHeartbeats 8000000 in
theorem div_ok (a b k : Int) (h : SpOk a b) (hk : 1 ≤ k ∧ k ≤ 1099511627776) (w : World) : Calls Tryd.prog 41 #[.agg #[.int .i64 a, .int .i64 b], .int .i64 k] w fun e w' => e = .returned (.tuple #[.agg #[.int .i64 (a / k), .int .i64 (b / k)], .int .i64 0]) ∧ Below w.heap.size w w' := by
  have g1 : decide (k < 1) = false := decide_eq_false (by omega)
  have g2 : decide (1099511627776 < k) = false := decide_eq_false (by omega)
  have hb9 := bld_sp (a / k) (b / k)
  have B0 := Lib.hid (((Below.refl w.heap.size w).alloc (Nat.le_refl _) (.cells #[.int .i64 a, .int .i64 b] 109)).alloc (by simp) (.cells #[.int .i64 0, .int .i64 0] 109))
  have P1 := Lib.hid ((hasBlk_new w 109 #[.int .i64 a, .int .i64 b]).alloc (.cells #[.int .i64 0, .int .i64 0] 109))
  have P3 := Lib.hid (show HasBlk ((w.alloc (.cells #[.int .i64 a, .int .i64 b] 109)).alloc (.cells #[.int .i64 0, .int .i64 0] 109)) (w.heap.size + 1) 109 #[.int .i64 0, .int .i64 0] by simpa using hasBlk_new (w.alloc (.cells #[.int .i64 a, .int .i64 b] 109)) 109 #[.int .i64 0, .int .i64 0])
  have KX := Lib.hid (fcheck_ok a b h ((w.alloc (.cells #[.int .i64 a, .int .i64 b] 109)).alloc (.cells #[.int .i64 0, .int .i64 0] 109)))
  have KY := Lib.hid (fun W => floor_any a k hk.1 (by omega) (by unfold SpOk at h; omega) W)
  have KZ := Lib.hid (fun W => floor_any b k hk.1 (by omega) (by unfold SpOk at h; omega) W)
  clear h hk
  go_enter Tryd.func41, Tryd.ntmps41
  go_wp2_with fail
  refine KX.out.mono ?_
  rintro e v1 ⟨rfl, bel⟩
  have Q1 := Lib.hid (P1.out.below bel)
  have Q3 := Lib.hid (P3.out.below bel)
  have HB := Lib.hid (B0.out.trans (bel.mono B0.out.size))
  clear KX P1 P3 B0 bel
  have q1_ := Q1.out.c2
  go_wp2_with fail
  refine (KY.out _).mono ?_
  rintro e v2 ⟨rfl, bel⟩
  clear q1_
  have R1 := Lib.hid (Q1.out.below bel)
  have R3 := Lib.hid (Q3.out.below bel)
  have HC := Lib.hid (HB.out.trans (bel.mono HB.out.size))
  clear KY bel HB Q1 Q3
  have r1_ := R1.out.c2
  go_wp2_with fail
  refine (KZ.out _).mono ?_
  rintro e v3 ⟨rfl, bel⟩
  clear r1_
  have R := Lib.hid (R3.out.below bel)
  have HE := Lib.hid (HC.out.trans (bel.mono HC.out.size))
  clear KZ bel HC R1 R3
  have r_ := R.out.f2
  go_wp2
  refine bodyPost_ret (v := .tuple #[.agg #[.int .i64 (a / k), .int .i64 (b / k)], .int .i64 0]) (by simp [results, Tryd.results41, go_sem, *]) rfl ⟨rfl, ?_⟩
  exact Below.setCell (Below.setCell HE.out (by first | omega | (simp; done) | (simp; omega)) _) (by first | omega | (simp; done) | (simp; omega)) _
end Go.Proofs.YtemopgpcpjnmkaaDoor
