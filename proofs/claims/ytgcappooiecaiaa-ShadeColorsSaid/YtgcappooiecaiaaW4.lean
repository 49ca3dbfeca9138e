/- The walk of dioramalaw23.ShadeOvers. -/
import Derived.Test.YtgcappooiecaiaaW2
namespace Go.Proofs.Ytgcappooiecaiaa
open Go.RowKit
set_option linter.unusedVariables false

theorem layc_full (x y : Int) : layc 255 x y = x := by unfold layc; omega
theorem layc_none (x y : Int) : layc 0 x y = y := by unfold layc; omega
theorem layc_between {a x y : Int} (ha : Byte a) (hx : Byte x) (hy : Byte y) : min x y ≤ layc a x y ∧ layc a x y ≤ max x y := by
  obtain ⟨a0, a1⟩ := ha; obtain ⟨x0, x1⟩ := hx; obtain ⟨y0, y1⟩ := hy
  have p1 : min x y * a ≤ x * a := Int.mul_le_mul_of_nonneg_right (by omega) a0
  have p2 : min x y * (255 - a) ≤ y * (255 - a) := Int.mul_le_mul_of_nonneg_right (by omega) (by omega)
  have q1 : x * a ≤ max x y * a := Int.mul_le_mul_of_nonneg_right (by omega) a0
  have q2 : y * (255 - a) ≤ max x y * (255 - a) := Int.mul_le_mul_of_nonneg_right (by omega) (by omega)
  have e1 : min x y * a + min x y * (255 - a) = min x y * 255 := by rw [← Int.mul_add]; congr 1; omega
  have e2 : max x y * a + max x y * (255 - a) = max x y * 255 := by rw [← Int.mul_add]; congr 1; omega
  unfold layc; omega
theorem layc_cover {a y : Int} (ha : Byte a) (hy : Byte y) : a ≤ layc a 255 y := by
  obtain ⟨a0, a1⟩ := ha; obtain ⟨y0, y1⟩ := hy
  have : 0 ≤ y * (255 - a) := Int.mul_nonneg y0 (by omega)
  unfold layc; omega
theorem layc_covered {a : Int} (ha : Byte a) : layc a 255 255 = 255 := by
  obtain ⟨a0, a1⟩ := ha
  unfold layc; omega

set_option maxHeartbeats 1000000 in
theorem shadeOvers_walk {a0 a1 a2 a3 b0 b1 b2 b3 : Int} (ha0 : Byte a0) (ha1 : Byte a1) (ha2 : Byte a2) (ha3 : Byte a3) (hb0 : Byte b0) (hb1 : Byte b1) (hb2 : Byte b2) (hb3 : Byte b3) (w : World) :
   Calls Try.prog 5 #[.agg #[.int .u8 a0, .int .u8 a1, .int .u8 a2, .int .u8 a3], .agg #[.int .u8 b0, .int .u8 b1, .int .u8 b2, .int .u8 b3]] w fun e w' => e = .returned (.bool true) ∧ Below w.heap.size w w' := by
  have hk : Keeps (fun W => (Below w.heap.size w W ∧ w.heap.size ≤ W.heap.size) ∧ w.heap.size + 2 ≤ W.heap.size ∧ W.cell? ⟨w.heap.size, 0, none⟩ = some (.int .u8 a0) ∧ W.cell? ⟨w.heap.size, 1, none⟩ = some (.int .u8 a1) ∧ W.cell? ⟨w.heap.size, 2, none⟩ = some (.int .u8 a2) ∧ W.cell? ⟨w.heap.size, 3, none⟩ = some (.int .u8 a3) ∧ W.cell? ⟨w.heap.size + 1, 0, none⟩ = some (.int .u8 b0) ∧ W.cell? ⟨w.heap.size + 1, 1, none⟩ = some (.int .u8 b1) ∧ W.cell? ⟨w.heap.size + 1, 2, none⟩ = some (.int .u8 b2) ∧ W.cell? ⟨w.heap.size + 1, 3, none⟩ = some (.int .u8 b3)) := by
    repeat' (first | exact Keeps.below _ | exact Keeps.size _ | exact Keeps.cell _ _ | apply Keeps.and)
  have hq := eql_col
  obtain ⟨m0, hm0⟩ : ∃ m, (if b0 < a0 then b0 else a0) = m := ⟨_, rfl⟩
  obtain ⟨n0, hn0⟩ : ∃ m, (if a0 < b0 then b0 else a0) = m := ⟨_, rfl⟩
  have g0 : decide (layc a3 a0 b0 < m0) = false := decide_eq_false (by have := layc_between ha3 ha0 hb0; rw [← hm0]; split <;> omega)
  have k0 : decide (n0 < layc a3 a0 b0) = false := decide_eq_false (by have := layc_between ha3 ha0 hb0; rw [← hn0]; split <;> omega)
  obtain ⟨m1, hm1⟩ : ∃ m, (if b1 < a1 then b1 else a1) = m := ⟨_, rfl⟩
  obtain ⟨n1, hn1⟩ : ∃ m, (if a1 < b1 then b1 else a1) = m := ⟨_, rfl⟩
  have g1 : decide (layc a3 a1 b1 < m1) = false := decide_eq_false (by have := layc_between ha3 ha1 hb1; rw [← hm1]; split <;> omega)
  have k1 : decide (n1 < layc a3 a1 b1) = false := decide_eq_false (by have := layc_between ha3 ha1 hb1; rw [← hn1]; split <;> omega)
  obtain ⟨m2, hm2⟩ : ∃ m, (if b2 < a2 then b2 else a2) = m := ⟨_, rfl⟩
  obtain ⟨n2, hn2⟩ : ∃ m, (if a2 < b2 then b2 else a2) = m := ⟨_, rfl⟩
  have g2 : decide (layc a3 a2 b2 < m2) = false := decide_eq_false (by have := layc_between ha3 ha2 hb2; rw [← hm2]; split <;> omega)
  have k2 : decide (n2 < layc a3 a2 b2) = false := decide_eq_false (by have := layc_between ha3 ha2 hb2; rw [← hn2]; split <;> omega)
  have g3 : decide (layc a3 255 b3 < a3) = false := decide_eq_false (by have := layc_cover ha3 hb3; omega)
  go_enter Try.func5, Try.ntmps5
  go_wp2_with fail
  refine (alive_any _).mono ?_
  rintro e w1 ⟨rfl, bel1⟩
  have s1 := hk _ _ bel1 (by (refine ⟨⟨?_, by first | omega | (simp; done) | (simp; omega)⟩, by first | omega | (simp; done) | (simp; omega), by simp [go_sem], by simp [go_sem], by simp [go_sem], by simp [go_sem], by simp [go_sem], by simp [go_sem], by simp [go_sem], by simp [go_sem]⟩; repeat' (first | exact Below.refl _ _ | assumption | apply Below.drew | refine Below.alloc ?_ (by first | omega | (simp; done) | (simp; omega)) _)))
  dsimp only at s1
  go_wp2_with fail
  refine (over_any ha0 ha1 ha2 ha3 hb0 hb1 hb2 hb3 _).mono ?_
  rintro e w2 ⟨rfl, bel2⟩
  have s2 := hk _ _ bel2 s1
  dsimp only at s2
  clear s1
  have hz := s2.2.1
  have hk1 : Keeps (fun W => ((Below w.heap.size w W ∧ w.heap.size ≤ W.heap.size) ∧ w.heap.size + 2 ≤ W.heap.size ∧ W.cell? ⟨w.heap.size, 0, none⟩ = some (.int .u8 a0) ∧ W.cell? ⟨w.heap.size, 1, none⟩ = some (.int .u8 a1) ∧ W.cell? ⟨w.heap.size, 2, none⟩ = some (.int .u8 a2) ∧ W.cell? ⟨w.heap.size, 3, none⟩ = some (.int .u8 a3) ∧ W.cell? ⟨w.heap.size + 1, 0, none⟩ = some (.int .u8 b0) ∧ W.cell? ⟨w.heap.size + 1, 1, none⟩ = some (.int .u8 b1) ∧ W.cell? ⟨w.heap.size + 1, 2, none⟩ = some (.int .u8 b2) ∧ W.cell? ⟨w.heap.size + 1, 3, none⟩ = some (.int .u8 b3)) ∧ W.cell? ⟨w2.heap.size, 0, none⟩ = some (.int .u8 (layc a3 a0 b0)) ∧ W.cell? ⟨w2.heap.size, 1, none⟩ = some (.int .u8 (layc a3 a1 b1)) ∧ W.cell? ⟨w2.heap.size, 2, none⟩ = some (.int .u8 (layc a3 a2 b2)) ∧ W.cell? ⟨w2.heap.size, 3, none⟩ = some (.int .u8 (layc a3 255 b3))) := by
    repeat' (first | exact Keeps.below _ | exact Keeps.size _ | exact Keeps.cell _ _ | apply Keeps.and)
  go_wp2
  refine wp_loop_rounds 4 ?_
  rw [rounds_succ]; go_wp2
  go_region_held3 (fun W => ((Below w.heap.size w W ∧ w.heap.size ≤ W.heap.size) ∧ w.heap.size + 2 ≤ W.heap.size ∧ W.cell? ⟨w.heap.size, 0, none⟩ = some (.int .u8 a0) ∧ W.cell? ⟨w.heap.size, 1, none⟩ = some (.int .u8 a1) ∧ W.cell? ⟨w.heap.size, 2, none⟩ = some (.int .u8 a2) ∧ W.cell? ⟨w.heap.size, 3, none⟩ = some (.int .u8 a3) ∧ W.cell? ⟨w.heap.size + 1, 0, none⟩ = some (.int .u8 b0) ∧ W.cell? ⟨w.heap.size + 1, 1, none⟩ = some (.int .u8 b1) ∧ W.cell? ⟨w.heap.size + 1, 2, none⟩ = some (.int .u8 b2) ∧ W.cell? ⟨w.heap.size + 1, 3, none⟩ = some (.int .u8 b3)) ∧ W.cell? ⟨w2.heap.size, 0, none⟩ = some (.int .u8 (layc a3 a0 b0)) ∧ W.cell? ⟨w2.heap.size, 1, none⟩ = some (.int .u8 (layc a3 a1 b1)) ∧ W.cell? ⟨w2.heap.size, 2, none⟩ = some (.int .u8 (layc a3 a2 b2)) ∧ W.cell? ⟨w2.heap.size, 3, none⟩ = some (.int .u8 (layc a3 255 b3))) ((refine ⟨hk _ _ ?_ s2, by simp [go_sem], by simp [go_sem], by simp [go_sem], by simp [go_sem]⟩; repeat' (first | exact Below.refl _ _ | assumption | apply Below.drew | refine Below.alloc ?_ (by first | omega | (simp; done) | (simp; omega)) _))) (fail)
  go_wp2
  rw [rounds_succ]; go_wp2
  go_region_held3 (fun W => ((Below w.heap.size w W ∧ w.heap.size ≤ W.heap.size) ∧ w.heap.size + 2 ≤ W.heap.size ∧ W.cell? ⟨w.heap.size, 0, none⟩ = some (.int .u8 a0) ∧ W.cell? ⟨w.heap.size, 1, none⟩ = some (.int .u8 a1) ∧ W.cell? ⟨w.heap.size, 2, none⟩ = some (.int .u8 a2) ∧ W.cell? ⟨w.heap.size, 3, none⟩ = some (.int .u8 a3) ∧ W.cell? ⟨w.heap.size + 1, 0, none⟩ = some (.int .u8 b0) ∧ W.cell? ⟨w.heap.size + 1, 1, none⟩ = some (.int .u8 b1) ∧ W.cell? ⟨w.heap.size + 1, 2, none⟩ = some (.int .u8 b2) ∧ W.cell? ⟨w.heap.size + 1, 3, none⟩ = some (.int .u8 b3)) ∧ W.cell? ⟨w2.heap.size, 0, none⟩ = some (.int .u8 (layc a3 a0 b0)) ∧ W.cell? ⟨w2.heap.size, 1, none⟩ = some (.int .u8 (layc a3 a1 b1)) ∧ W.cell? ⟨w2.heap.size, 2, none⟩ = some (.int .u8 (layc a3 a2 b2)) ∧ W.cell? ⟨w2.heap.size, 3, none⟩ = some (.int .u8 (layc a3 255 b3))) ((refine ⟨hk _ _ ?_ s2, by simp [go_sem], by simp [go_sem], by simp [go_sem], by simp [go_sem]⟩; repeat' (first | exact Below.refl _ _ | assumption | apply Below.drew | refine Below.alloc ?_ (by first | omega | (simp; done) | (simp; omega)) _))) (fail)
  go_wp2
  rw [rounds_succ]; go_wp2
  go_region_held3 (fun W => ((Below w.heap.size w W ∧ w.heap.size ≤ W.heap.size) ∧ w.heap.size + 2 ≤ W.heap.size ∧ W.cell? ⟨w.heap.size, 0, none⟩ = some (.int .u8 a0) ∧ W.cell? ⟨w.heap.size, 1, none⟩ = some (.int .u8 a1) ∧ W.cell? ⟨w.heap.size, 2, none⟩ = some (.int .u8 a2) ∧ W.cell? ⟨w.heap.size, 3, none⟩ = some (.int .u8 a3) ∧ W.cell? ⟨w.heap.size + 1, 0, none⟩ = some (.int .u8 b0) ∧ W.cell? ⟨w.heap.size + 1, 1, none⟩ = some (.int .u8 b1) ∧ W.cell? ⟨w.heap.size + 1, 2, none⟩ = some (.int .u8 b2) ∧ W.cell? ⟨w.heap.size + 1, 3, none⟩ = some (.int .u8 b3)) ∧ W.cell? ⟨w2.heap.size, 0, none⟩ = some (.int .u8 (layc a3 a0 b0)) ∧ W.cell? ⟨w2.heap.size, 1, none⟩ = some (.int .u8 (layc a3 a1 b1)) ∧ W.cell? ⟨w2.heap.size, 2, none⟩ = some (.int .u8 (layc a3 a2 b2)) ∧ W.cell? ⟨w2.heap.size, 3, none⟩ = some (.int .u8 (layc a3 255 b3))) ((refine ⟨hk _ _ ?_ s2, by simp [go_sem], by simp [go_sem], by simp [go_sem], by simp [go_sem]⟩; repeat' (first | exact Below.refl _ _ | assumption | apply Below.drew | refine Below.alloc ?_ (by first | omega | (simp; done) | (simp; omega)) _))) (fail)
  go_wp2
  have f1 : (b3 == 255) = false ∨ ((b3 == 255) = true ∧ (layc a3 255 b3 != 255) = false) := by
    by_cases h : b3 = 255
    · right; subst h; rw [layc_covered ha3]; exact ⟨rfl, rfl⟩
    · left; simp [h]
  have e1 : (a3 != 255) = true ∨ ((a3 != 255) = false ∧ (layc a3 a0 b0 == a0 && (layc a3 a1 b1 == a1 && (layc a3 a2 b2 == a2 && layc a3 255 b3 == a3))) = true) := by
    by_cases h : a3 = 255
    · right; subst h; simp [layc_full]
    · left; simp [h]
  have e2 : (a3 != 0) = true ∨ ((a3 != 0) = false ∧ (layc a3 a0 b0 == b0 && (layc a3 a1 b1 == b1 && (layc a3 a2 b2 == b2 && layc a3 255 b3 == b3))) = true) := by
    by_cases h : a3 = 0
    · right; subst h; simp [layc_none]
    · left; simp [h]
  rw [rounds_succ]
  rcases f1 with f1 | ⟨f1, f2⟩ <;> rcases e1 with e1 | ⟨e1, e3⟩ <;> rcases e2 with e2 | ⟨e2, e4⟩
  all_goals
    go_wp2
    go_ret
    exact ⟨rfl, by have := s2.1.1; repeat' (first | exact Below.refl _ _ | assumption | apply Below.drew | refine Below.alloc ?_ (by first | omega | (simp; done) | (simp; omega)) _)⟩
end Go.Proofs.Ytgcappooiecaiaa
