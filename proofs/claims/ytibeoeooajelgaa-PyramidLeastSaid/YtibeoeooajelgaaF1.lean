/- frame: who is somebody's, who is nearer. -/
import Derived.Test.YtibeoeooajelgaaFd
import Derived.Test.YtibeoeooajelgaaRow
import Derived.Test.YtibeoeooajelgaaInts
import Derived.Test.YtibeoeooajelgaaQuiet
import Derived.StillTailTactics
import Derived.IntWalk
import Derived.Test.YtibeoeooajelgaaProg
namespace Go.Proofs.Ytibeoeooajelgaa
open Go.RowKit
set_option linter.unusedVariables false

/-- A bool that says whether p holds. -/
def EqR (p : Prop) (e : Ending) : Prop := ∃ b : Bool, e = .returned (.bool b) ∧ (b = true ↔ p)
/-- A slice of the call's own that reads as F. -/
def OwnR (et s n : Nat) (F : Nat → Nat → Value) (B : Nat) (e : Ending) (w' : World) : Prop := ∃ A c, e = .returned (.slice A n c) ∧ w'.ownsRow B et s (.slice A n c) n (cellsR s F n)

set_option maxHeartbeats 1000000 in
theorem deep_any (d : Int) (w : World) : Calls Try.prog 60 #[.int .i64 d] w fun e w' => e = .returned (.bool (decide (-1024 ≤ d ∧ d ≤ 66560))) ∧ w' = w := by
  by_cases h0 : -1024 ≤ d
  rotate_left
  · rw [decide_eq_false (show ¬ (-1024 ≤ d ∧ d ≤ 66560) by omega)]
    have g0 : decide ((-1024 : Int) ≤ d) = false := decide_eq_false h0
    go_enter Try.func60, Try.ntmps60
    go_wp2
    go_ret
    exact ⟨rfl, rfl⟩
  have g0 : decide ((-1024 : Int) ≤ d) = true := decide_eq_true h0
  by_cases h1 : d ≤ 66560
  rotate_left
  · rw [decide_eq_false (show ¬ (-1024 ≤ d ∧ d ≤ 66560) by omega)]
    have g1 : decide (d ≤ (66560 : Int)) = false := decide_eq_false h1
    go_enter Try.func60, Try.ntmps60
    go_wp2
    go_ret
    exact ⟨rfl, rfl⟩
  have g1 : decide (d ≤ (66560 : Int)) = true := decide_eq_true h1
  rw [decide_eq_true (show -1024 ≤ d ∧ d ≤ 66560 by omega)]
  go_enter Try.func60, Try.ntmps60
  go_wp2

  go_ret
  exact ⟨rfl, rfl⟩

set_option maxHeartbeats 1000000 in
theorem refdeep_any (d : Int) (w : World) : Calls Try.prog 62 #[.int .i64 d] w fun e w' => e = .returned (.bool (decide (-1024 ≤ d ∧ d ≤ 66560))) ∧ w' = w := by
  by_cases h0 : -1024 ≤ d
  rotate_left
  · rw [decide_eq_false (show ¬ (-1024 ≤ d ∧ d ≤ 66560) by omega)]
    have g0 : decide ((-1024 : Int) ≤ d) = false := decide_eq_false h0
    go_enter Try.func62, Try.ntmps62
    go_wp2
    go_ret
    exact ⟨rfl, rfl⟩
  have g0 : decide ((-1024 : Int) ≤ d) = true := decide_eq_true h0
  by_cases h1 : d ≤ 66560
  rotate_left
  · rw [decide_eq_false (show ¬ (-1024 ≤ d ∧ d ≤ 66560) by omega)]
    have g1 : decide (d ≤ (66560 : Int)) = false := decide_eq_false h1
    go_enter Try.func62, Try.ntmps62
    go_wp2
    go_ret
    exact ⟨rfl, rfl⟩
  have g1 : decide (d ≤ (66560 : Int)) = true := decide_eq_true h1
  rw [decide_eq_true (show -1024 ≤ d ∧ d ≤ 66560 by omega)]
  go_enter Try.func62, Try.ntmps62
  go_wp2

  go_ret
  exact ⟨rfl, rfl⟩

set_option maxHeartbeats 1000000 in
theorem somebody_any (d i t : Int) (w : World) : Calls Try.prog 55 #[.int .i64 d, .int .i64 i, .int .i64 t] w fun e w' => e = .returned (.bool (decide (SomeP d i t))) ∧ w' = w := by
  by_cases h0 : -1024 ≤ d ∧ d ≤ 66560
  rotate_left
  · rw [decide_eq_false (show ¬ (SomeP d i t) by unfold SomeP; omega)]
    have g0 : decide (-1024 ≤ d ∧ d ≤ 66560) = false := decide_eq_false h0
    go_enter Try.func55, Try.ntmps55
    go_wp2_with fail
    refine (deep_any d _).mono ?_
    rw [g0]
    rintro e w' ⟨rfl, rfl⟩
    go_wp2
    go_ret
    exact ⟨rfl, rfl⟩
  have g0 : decide (-1024 ≤ d ∧ d ≤ 66560) = true := decide_eq_true h0
  by_cases h1 : 0 ≤ i
  rotate_left
  · rw [decide_eq_false (show ¬ (SomeP d i t) by unfold SomeP; omega)]
    have g1 : decide ((0 : Int) ≤ i) = false := decide_eq_false h1
    go_enter Try.func55, Try.ntmps55
    go_wp2_with fail
    refine (deep_any d _).mono ?_
    rw [g0]
    rintro e w' ⟨rfl, rfl⟩
    go_wp2
    go_ret
    exact ⟨rfl, rfl⟩
  have g1 : decide ((0 : Int) ≤ i) = true := decide_eq_true h1
  by_cases h2 : i < 256
  rotate_left
  · rw [decide_eq_false (show ¬ (SomeP d i t) by unfold SomeP; omega)]
    have g2 : decide (i < (256 : Int)) = false := decide_eq_false h2
    go_enter Try.func55, Try.ntmps55
    go_wp2_with fail
    refine (deep_any d _).mono ?_
    rw [g0]
    rintro e w' ⟨rfl, rfl⟩
    go_wp2
    go_ret
    exact ⟨rfl, rfl⟩
  have g2 : decide (i < (256 : Int)) = true := decide_eq_true h2
  by_cases h3 : 0 ≤ t
  rotate_left
  · rw [decide_eq_false (show ¬ (SomeP d i t) by unfold SomeP; omega)]
    have g3 : decide ((0 : Int) ≤ t) = false := decide_eq_false h3
    go_enter Try.func55, Try.ntmps55
    go_wp2_with fail
    refine (deep_any d _).mono ?_
    rw [g0]
    rintro e w' ⟨rfl, rfl⟩
    go_wp2
    go_ret
    exact ⟨rfl, rfl⟩
  have g3 : decide ((0 : Int) ≤ t) = true := decide_eq_true h3
  by_cases h4 : t < 64
  rotate_left
  · rw [decide_eq_false (show ¬ (SomeP d i t) by unfold SomeP; omega)]
    have g4 : decide (t < (64 : Int)) = false := decide_eq_false h4
    go_enter Try.func55, Try.ntmps55
    go_wp2_with fail
    refine (deep_any d _).mono ?_
    rw [g0]
    rintro e w' ⟨rfl, rfl⟩
    go_wp2
    go_ret
    exact ⟨rfl, rfl⟩
  have g4 : decide (t < (64 : Int)) = true := decide_eq_true h4
  rw [decide_eq_true (show SomeP d i t by unfold SomeP; omega)]
  go_enter Try.func55, Try.ntmps55
  go_wp2_with fail
  refine (deep_any d _).mono ?_
  rw [g0]
  rintro e w' ⟨rfl, rfl⟩
  go_wp2

  go_ret
  exact ⟨rfl, rfl⟩

set_option maxHeartbeats 1000000 in
theorem refsomebody_any (d i t : Int) (w : World) : Calls Try.prog 58 #[.int .i64 d, .int .i64 i, .int .i64 t] w fun e w' => e = .returned (.bool (decide (SomeP d i t))) ∧ w' = w := by
  by_cases h0 : -1024 ≤ d ∧ d ≤ 66560
  rotate_left
  · rw [decide_eq_false (show ¬ (SomeP d i t) by unfold SomeP; omega)]
    have g0 : decide (-1024 ≤ d ∧ d ≤ 66560) = false := decide_eq_false h0
    go_enter Try.func58, Try.ntmps58
    go_wp2_with fail
    refine (refdeep_any d _).mono ?_
    rw [g0]
    rintro e w' ⟨rfl, rfl⟩
    go_wp2
    go_ret
    exact ⟨rfl, rfl⟩
  have g0 : decide (-1024 ≤ d ∧ d ≤ 66560) = true := decide_eq_true h0
  by_cases h1 : 0 ≤ i
  rotate_left
  · rw [decide_eq_false (show ¬ (SomeP d i t) by unfold SomeP; omega)]
    have g1 : decide ((0 : Int) ≤ i) = false := decide_eq_false h1
    go_enter Try.func58, Try.ntmps58
    go_wp2_with fail
    refine (refdeep_any d _).mono ?_
    rw [g0]
    rintro e w' ⟨rfl, rfl⟩
    go_wp2
    go_ret
    exact ⟨rfl, rfl⟩
  have g1 : decide ((0 : Int) ≤ i) = true := decide_eq_true h1
  by_cases h2 : i < 256
  rotate_left
  · rw [decide_eq_false (show ¬ (SomeP d i t) by unfold SomeP; omega)]
    have g2 : decide (i < (256 : Int)) = false := decide_eq_false h2
    go_enter Try.func58, Try.ntmps58
    go_wp2_with fail
    refine (refdeep_any d _).mono ?_
    rw [g0]
    rintro e w' ⟨rfl, rfl⟩
    go_wp2
    go_ret
    exact ⟨rfl, rfl⟩
  have g2 : decide (i < (256 : Int)) = true := decide_eq_true h2
  by_cases h3 : 0 ≤ t
  rotate_left
  · rw [decide_eq_false (show ¬ (SomeP d i t) by unfold SomeP; omega)]
    have g3 : decide ((0 : Int) ≤ t) = false := decide_eq_false h3
    go_enter Try.func58, Try.ntmps58
    go_wp2_with fail
    refine (refdeep_any d _).mono ?_
    rw [g0]
    rintro e w' ⟨rfl, rfl⟩
    go_wp2
    go_ret
    exact ⟨rfl, rfl⟩
  have g3 : decide ((0 : Int) ≤ t) = true := decide_eq_true h3
  by_cases h4 : t < 64
  rotate_left
  · rw [decide_eq_false (show ¬ (SomeP d i t) by unfold SomeP; omega)]
    have g4 : decide (t < (64 : Int)) = false := decide_eq_false h4
    go_enter Try.func58, Try.ntmps58
    go_wp2_with fail
    refine (refdeep_any d _).mono ?_
    rw [g0]
    rintro e w' ⟨rfl, rfl⟩
    go_wp2
    go_ret
    exact ⟨rfl, rfl⟩
  have g4 : decide (t < (64 : Int)) = true := decide_eq_true h4
  rw [decide_eq_true (show SomeP d i t by unfold SomeP; omega)]
  go_enter Try.func58, Try.ntmps58
  go_wp2_with fail
  refine (refdeep_any d _).mono ?_
  rw [g0]
  rintro e w' ⟨rfl, rfl⟩
  go_wp2

  go_ret
  exact ⟨rfl, rfl⟩

/-- What cmp.Compare answers. -/
def cmpv (x y : Int) : Int := if x < y then -1 else if y < x then 1 else 0
theorem nan_any (x : Int) (w : World) : Calls Try.prog 76 #[.int .i64 x] w fun e w' => e = .returned (.bool false) ∧ w' = w := by
  have g0 : (x != x) = false := by simp
  go_enter Try.func76, Try.ntmps76
  go_wp2
  go_ret
  exact ⟨rfl, rfl⟩
set_option maxHeartbeats 1000000 in
theorem cmp_any (x y : Int) (w : World) : Calls Try.prog 52 #[.int .i64 x, .int .i64 y] w fun e w' => e = .returned (.int .i64 (cmpv x y)) ∧ w' = w := by
  have arms : True := trivial
  unfold cmpv
  by_cases h0 : x < y
  · have g0 : decide (x < y) = true := decide_eq_true h0
    rw [if_pos h0]
    go_enter Try.func52, Try.ntmps52
    go_wp2_with (go_at_call 76; refine (nan_any _ _).mono ?_; rintro e w' ⟨rfl, rfl⟩)
    go_ret
    exact ⟨rfl, rfl⟩
  have g0 : decide (x < y) = false := decide_eq_false h0
  rw [if_neg h0]
  by_cases h1 : y < x
  · have g1 : decide (y < x) = true := decide_eq_true h1
    rw [if_pos h1]
    go_enter Try.func52, Try.ntmps52
    go_wp2_with (go_at_call 76; refine (nan_any _ _).mono ?_; rintro e w' ⟨rfl, rfl⟩)
    go_ret
    exact ⟨rfl, rfl⟩
  have g1 : decide (y < x) = false := decide_eq_false h1
  rw [if_neg h1]
  go_enter Try.func52, Try.ntmps52
  go_wp2_with (go_at_call 76; refine (nan_any _ _).mono ?_; rintro e w' ⟨rfl, rfl⟩)
  go_ret
  exact ⟨rfl, rfl⟩
/-- The first of four that is not 0. -/
def or4 (a b c d : Int) : Int := if a ≠ 0 then a else if b ≠ 0 then b else if c ≠ 0 then c else d
set_option maxRecDepth 100000 in
set_option maxHeartbeats 2000000 in
theorem or_any (a b c d : Int) (g : Nat) (w : World) (c0 : w.cell? ⟨g, 0, none⟩ = some (.int .i64 a)) (c1 : w.cell? ⟨g, 1, none⟩ = some (.int .i64 b)) (c2 : w.cell? ⟨g, 2, none⟩ = some (.int .i64 c)) (c3 : w.cell? ⟨g, 3, none⟩ = some (.int .i64 d)) :
    Calls Try.prog 51 #[.slice (some ⟨g, 0, none⟩) 4 4] w fun e w' => e = .returned (.int .i64 (or4 a b c d)) ∧ w' = w := by
  unfold or4
  by_cases h0 : a = 0
  rotate_left
  · rw [if_pos h0]
    have g0 : (a != 0) = true := by simpa using h0
    go_enter Try.func51, Try.ntmps51
    go_wp2
    refine wp_loop_rounds 5 ?_
    repeat (rw [rounds_succ]; go_wp2)
    go_ret
    exact ⟨rfl, rfl⟩
  rw [if_neg (by simpa using h0)]
  have g0 : (a != 0) = false := by simpa using h0
  by_cases h1 : b = 0
  rotate_left
  · rw [if_pos h1]
    have g1 : (b != 0) = true := by simpa using h1
    go_enter Try.func51, Try.ntmps51
    go_wp2
    refine wp_loop_rounds 5 ?_
    repeat (rw [rounds_succ]; go_wp2)
    go_ret
    exact ⟨rfl, rfl⟩
  rw [if_neg (by simpa using h1)]
  have g1 : (b != 0) = false := by simpa using h1
  by_cases h2 : c = 0
  rotate_left
  · rw [if_pos h2]
    have g2 : (c != 0) = true := by simpa using h2
    go_enter Try.func51, Try.ntmps51
    go_wp2
    refine wp_loop_rounds 5 ?_
    repeat (rw [rounds_succ]; go_wp2)
    go_ret
    exact ⟨rfl, rfl⟩
  rw [if_neg (by simpa using h2)]
  have g2 : (c != 0) = false := by simpa using h2
  by_cases h3 : d = 0
  · have g3 : (d != 0) = false := by simpa using h3
    subst h3
    go_enter Try.func51, Try.ntmps51
    go_wp2
    refine wp_loop_rounds 5 ?_
    repeat (rw [rounds_succ]; go_wp2)
    go_ret
    exact ⟨rfl, rfl⟩
  have g3 : (d != 0) = true := by simpa using h3
  go_enter Try.func51, Try.ntmps51
  go_wp2
  refine wp_loop_rounds 5 ?_
  repeat (rw [rounds_succ]; go_wp2)
  go_ret
  exact ⟨rfl, rfl⟩

theorem near_or (d i t p d' i' t' p' : Int) : decide (or4 (cmpv d' d) (cmpv i i') (cmpv t t') (cmpv p p') < 0) = decide (NearP d i t p d' i' t' p') := by
  apply Bool.eq_iff_iff.2
  rw [decide_eq_true_iff, decide_eq_true_iff]
  unfold or4 cmpv NearP
  omega
set_option maxRecDepth 100000 in
set_option maxHeartbeats 4000000 in
theorem nearer_any (d i t p u v d' i' t' p' u' v' : Int) (w : World) : Calls Try.prog 16 #[.agg #[.int .i64 d, .int .i64 i, .int .i64 t, .int .i64 p, .int .i64 u, .int .i64 v], .agg #[.int .i64 d', .int .i64 i', .int .i64 t', .int .i64 p', .int .i64 u', .int .i64 v']] w fun e w' => e = .returned (.bool (decide (NearP d i t p d' i' t' p'))) ∧ Below w.heap.size w w' := by
  rw [← near_or]
  go_enter Try.func16, Try.ntmps16
  go_wp2_with fail
  have NE_P_Q := Lib.hid (show w.heap.size ≠ w.heap.size + 1 by omega)
  have s_P : HasBlk (w.alloc (.cells #[.int .i64 d, .int .i64 i, .int .i64 t, .int .i64 p, .int .i64 u, .int .i64 v] 25)) (w.heap.size) 25 #[.int .i64 d, .int .i64 i, .int .i64 t, .int .i64 p, .int .i64 u, .int .i64 v] := by simpa using hasBlk_new w 25 #[.int .i64 d, .int .i64 i, .int .i64 t, .int .i64 p, .int .i64 u, .int .i64 v]
  replace s_P := s_P.alloc (.cells #[.int .i64 d', .int .i64 i', .int .i64 t', .int .i64 p', .int .i64 u', .int .i64 v'] 25)
  have s_Q : HasBlk ((w.alloc (.cells #[.int .i64 d, .int .i64 i, .int .i64 t, .int .i64 p, .int .i64 u, .int .i64 v] 25)).alloc (.cells #[.int .i64 d', .int .i64 i', .int .i64 t', .int .i64 p', .int .i64 u', .int .i64 v'] 25)) (w.heap.size + 1) 25 #[.int .i64 d', .int .i64 i', .int .i64 t', .int .i64 p', .int .i64 u', .int .i64 v'] := by simpa using hasBlk_new (w.alloc (.cells #[.int .i64 d, .int .i64 i, .int .i64 t, .int .i64 p, .int .i64 u, .int .i64 v] 25)) 25 #[.int .i64 d', .int .i64 i', .int .i64 t', .int .i64 p', .int .i64 u', .int .i64 v']
  have t_P : HasBlk ((w.alloc (.cells #[.int .i64 d, .int .i64 i, .int .i64 t, .int .i64 p, .int .i64 u, .int .i64 v] 25)).alloc (.cells #[.int .i64 d', .int .i64 i', .int .i64 t', .int .i64 p', .int .i64 u', .int .i64 v'] 25)) (w.heap.size) 25 #[.int .i64 d, .int .i64 i, .int .i64 t, .int .i64 p, .int .i64 u, .int .i64 v] := by simpa using s_P
  clear s_P
  have t_Q : HasBlk ((w.alloc (.cells #[.int .i64 d, .int .i64 i, .int .i64 t, .int .i64 p, .int .i64 u, .int .i64 v] 25)).alloc (.cells #[.int .i64 d', .int .i64 i', .int .i64 t', .int .i64 p', .int .i64 u', .int .i64 v'] 25)) (w.heap.size + 1) 25 #[.int .i64 d', .int .i64 i', .int .i64 t', .int .i64 p', .int .i64 u', .int .i64 v'] := by simpa using s_Q
  clear s_Q
  have SB1 : Below w.heap.size w ((w.alloc (.cells #[.int .i64 d, .int .i64 i, .int .i64 t, .int .i64 p, .int .i64 u, .int .i64 v] 25)).alloc (.cells #[.int .i64 d', .int .i64 i', .int .i64 t', .int .i64 p', .int .i64 u', .int .i64 v'] 25)) := by
    repeat' (first | exact Below.refl _ _ | assumption | apply Below.drew | refine Below.setCell ?_ (by first | omega | (simp; done) | (simp; omega)) _ | refine Below.alloc ?_ (by first | omega | (simp; done) | (simp; omega)) _)
  generalize gW_v0 : ((w.alloc (.cells #[.int .i64 d, .int .i64 i, .int .i64 t, .int .i64 p, .int .i64 u, .int .i64 v] 25)).alloc (.cells #[.int .i64 d', .int .i64 i', .int .i64 t', .int .i64 p', .int .i64 u', .int .i64 v'] 25)) = v0 at *
  clear gW_v0
  have P := Lib.hid t_P
  clear t_P
  have Q := Lib.hid t_Q
  clear t_Q
  have SB1h := Lib.hid SB1
  clear SB1
  have lt_P := P.out.lt
  have P_0 := P.out.cell 0
  have P_1 := P.out.cell 1
  have P_2 := P.out.cell 2
  have P_3 := P.out.cell 3
  have P_4 := P.out.cell 4
  have P_5 := P.out.cell 5
  simp at P_0 P_1 P_2 P_3 P_4 P_5
  have lt_Q := Q.out.lt
  have Q_0 := Q.out.cell 0
  have Q_1 := Q.out.cell 1
  have Q_2 := Q.out.cell 2
  have Q_3 := Q.out.cell 3
  have Q_4 := Q.out.cell 4
  have Q_5 := Q.out.cell 5
  simp at Q_0 Q_1 Q_2 Q_3 Q_4 Q_5
  have szB_v0 := SB1h.out.size
  refine wp_region_still_tail 20 (by kernel_rfl) (by kernel_rfl) ?_
  simp only [List.take_succ_cons, List.take_zero, List.drop_succ_cons, List.drop_zero]
  iterate 4 ((repeat still_step); still_call (cmp_any _ _ _))
  refine wpStill_nil ?_
  change wpList _ _ _ _ _ (World.drew _)
  clear lt_P P_0 P_1 P_2 P_3 P_4 P_5 lt_Q Q_0 Q_1 Q_2 Q_3 Q_4 Q_5
  go_wp2_with fail
  refine (or_any (cmpv d' d) (cmpv i i') (cmpv t t') (cmpv p p') _ _ (by simp [go_sem]) (by simp [go_sem]) (by simp [go_sem]) (by simp [go_sem])).mono ?_
  rintro e w1 ⟨rfl, rfl⟩
  have HF : Below w.heap.size w v0 := SB1h.out
  have zf := HF.size
  go_wp2
  go_ret
  exact ⟨rfl, by repeat' (first | exact Below.refl _ _ | assumption | apply Below.drew | refine Below.setCell ?_ (by first | omega | (simp; done) | (simp; omega)) _ | refine Below.alloc ?_ (by first | omega | (simp; done) | (simp; omega)) _)⟩

set_option maxRecDepth 100000 in
set_option maxHeartbeats 4000000 in
theorem refnearer24_any (d i t p u v d' i' t' p' u' v' : Int) (w : World) : Calls Try.prog 53 #[.agg #[.int .i64 d, .int .i64 i, .int .i64 t, .int .i64 p, .int .i64 u, .int .i64 v], .agg #[.int .i64 d', .int .i64 i', .int .i64 t', .int .i64 p', .int .i64 u', .int .i64 v']] w fun e w' => e = .returned (.bool (decide (NearP d i t p d' i' t' p'))) ∧ Below w.heap.size w w' := by
  by_cases h0 : d = d'
  rotate_left
  · have g0 : (d != d') = true := by simpa using h0
    rw [show decide (NearP d i t p d' i' t' p') = decide (d' < d) from by apply Bool.eq_iff_iff.2; rw [decide_eq_true_iff, decide_eq_true_iff]; unfold NearP; omega]
    go_enter Try.func53, Try.ntmps53
    go_wp2
    go_ret
    exact ⟨rfl, by repeat' (first | exact Below.refl _ _ | assumption | apply Below.drew | refine Below.setCell ?_ (by first | omega | (simp; done) | (simp; omega)) _ | refine Below.alloc ?_ (by first | omega | (simp; done) | (simp; omega)) _)⟩
  have g0 : (d != d') = false := by simpa using h0
  by_cases h1 : i = i'
  rotate_left
  · have g1 : (i != i') = true := by simpa using h1
    rw [show decide (NearP d i t p d' i' t' p') = decide (i < i') from by apply Bool.eq_iff_iff.2; rw [decide_eq_true_iff, decide_eq_true_iff]; unfold NearP; omega]
    go_enter Try.func53, Try.ntmps53
    go_wp2
    go_ret
    exact ⟨rfl, by repeat' (first | exact Below.refl _ _ | assumption | apply Below.drew | refine Below.setCell ?_ (by first | omega | (simp; done) | (simp; omega)) _ | refine Below.alloc ?_ (by first | omega | (simp; done) | (simp; omega)) _)⟩
  have g1 : (i != i') = false := by simpa using h1
  by_cases h2 : t = t'
  rotate_left
  · have g2 : (t != t') = true := by simpa using h2
    rw [show decide (NearP d i t p d' i' t' p') = decide (t < t') from by apply Bool.eq_iff_iff.2; rw [decide_eq_true_iff, decide_eq_true_iff]; unfold NearP; omega]
    go_enter Try.func53, Try.ntmps53
    go_wp2
    go_ret
    exact ⟨rfl, by repeat' (first | exact Below.refl _ _ | assumption | apply Below.drew | refine Below.setCell ?_ (by first | omega | (simp; done) | (simp; omega)) _ | refine Below.alloc ?_ (by first | omega | (simp; done) | (simp; omega)) _)⟩
  have g2 : (t != t') = false := by simpa using h2
  rw [show decide (NearP d i t p d' i' t' p') = decide (p < p') from by apply Bool.eq_iff_iff.2; rw [decide_eq_true_iff, decide_eq_true_iff]; unfold NearP; omega]
  clear h0 h1 h2
  go_enter Try.func53, Try.ntmps53
  go_wp2
  go_ret
  exact ⟨rfl, by repeat' (first | exact Below.refl _ _ | assumption | apply Below.drew | refine Below.setCell ?_ (by first | omega | (simp; done) | (simp; omega)) _ | refine Below.alloc ?_ (by first | omega | (simp; done) | (simp; omega)) _)⟩

set_option maxHeartbeats 1000000 in
theorem refnearer_any (d i t p u v d' i' t' p' u' v' : Int) (w : World) : Calls Try.prog 17 #[.agg #[.int .i64 d, .int .i64 i, .int .i64 t, .int .i64 p, .int .i64 u, .int .i64 v], .agg #[.int .i64 d', .int .i64 i', .int .i64 t', .int .i64 p', .int .i64 u', .int .i64 v']] w fun e w' => e = .returned (.bool (decide (NearP d i t p d' i' t' p'))) ∧ Below w.heap.size w w' := by
  go_enter Try.func17, Try.ntmps17
  go_wp2_with fail
  refine (refnearer24_any _ _ _ _ _ _ _ _ _ _ _ _ _).mono ?_
  rintro e w1 ⟨rfl, bel1⟩
  go_wp2
  go_ret
  exact ⟨rfl, by have bel0 := bel1; exact Below.trans (by repeat' (first | exact Below.refl _ _ | assumption | apply Below.drew | refine Below.setCell ?_ (by first | omega | (simp; done) | (simp; omega)) _ | refine Below.alloc ?_ (by first | omega | (simp; done) | (simp; omega)) _)) (bel1.mono (by simp; omega))⟩
end Go.Proofs.Ytibeoeooajelgaa
