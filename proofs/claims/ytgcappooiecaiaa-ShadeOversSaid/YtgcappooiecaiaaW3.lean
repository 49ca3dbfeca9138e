/- The walk of dioramalaw23.ShadeMixes. -/
import Derived.Test.YtgcappooiecaiaaW2
namespace Go.Proofs.Ytgcappooiecaiaa
open Go.RowKit
set_option linter.unusedVariables false

theorem mixc_comm (a b : Int) : mixc a b = mixc b a := by unfold mixc; rw [Int.mul_comm]
theorem mixc_le {a b : Int} (ha : Byte a) (hb : Byte b) : mixc a b ≤ a := by
  obtain ⟨a0, a1⟩ := ha; obtain ⟨b0, b1⟩ := hb
  have : a * b ≤ a * 255 := Int.mul_le_mul_of_nonneg_left b1 a0
  unfold mixc; omega
theorem mixc_le' {a b : Int} (ha : Byte a) (hb : Byte b) : mixc a b ≤ b := by rw [mixc_comm]; exact mixc_le hb ha
theorem mixc_white (a : Int) : mixc a 255 = a := by unfold mixc; omega
theorem mixc_zero (a : Int) : mixc a 0 = 0 := by unfold mixc; simp

theorem mix_turned {a0 a1 a2 a3 b0 b1 b2 b3 : Int} (ha0 : Byte a0) (ha1 : Byte a1) (ha2 : Byte a2) (ha3 : Byte a3) (hb0 : Byte b0) (hb1 : Byte b1) (hb2 : Byte b2) (hb3 : Byte b3) (w : World) : Calls Try.prog 13 #[.agg #[.int .u8 b0, .int .u8 b1, .int .u8 b2, .int .u8 b3], .agg #[.int .u8 a0, .int .u8 a1, .int .u8 a2, .int .u8 a3]] w fun e w' =>
      e = .returned (.agg #[.int .u8 (mixc a0 b0), .int .u8 (mixc a1 b1), .int .u8 (mixc a2 b2), .int .u8 (mixc a3 b3)]) ∧ Below w.heap.size w w' := by
  have h := mix_any hb0 hb1 hb2 hb3 ha0 ha1 ha2 ha3 w
  rwa [mixc_comm b0, mixc_comm b1, mixc_comm b2, mixc_comm b3] at h
theorem mix_white {a0 a1 a2 a3 : Int} (ha0 : Byte a0) (ha1 : Byte a1) (ha2 : Byte a2) (ha3 : Byte a3) (w : World) : Calls Try.prog 13 #[.agg #[.int .u8 a0, .int .u8 a1, .int .u8 a2, .int .u8 a3], .agg #[.int .u8 255, .int .u8 255, .int .u8 255, .int .u8 255]] w fun e w' =>
      e = .returned (.agg #[.int .u8 a0, .int .u8 a1, .int .u8 a2, .int .u8 a3]) ∧ Below w.heap.size w w' := by
  have h := mix_any ha0 ha1 ha2 ha3 (byte_lit 255 (by decide)) (byte_lit 255 (by decide)) (byte_lit 255 (by decide)) (byte_lit 255 (by decide)) w
  rwa [mixc_white, mixc_white, mixc_white, mixc_white] at h
theorem mix_zero {a0 a1 a2 a3 : Int} (ha0 : Byte a0) (ha1 : Byte a1) (ha2 : Byte a2) (ha3 : Byte a3) (w : World) : Calls Try.prog 13 #[.agg #[.int .u8 a0, .int .u8 a1, .int .u8 a2, .int .u8 a3], .agg #[.int .u8 0, .int .u8 0, .int .u8 0, .int .u8 0]] w fun e w' =>
      e = .returned (.agg #[.int .u8 0, .int .u8 0, .int .u8 0, .int .u8 0]) ∧ Below w.heap.size w w' := by
  have h := mix_any ha0 ha1 ha2 ha3 (byte_lit 0 (by decide)) (byte_lit 0 (by decide)) (byte_lit 0 (by decide)) (byte_lit 0 (by decide)) w
  rwa [mixc_zero, mixc_zero, mixc_zero, mixc_zero] at h

set_option maxHeartbeats 1000000 in
theorem shadeMixes_walk {a0 a1 a2 a3 b0 b1 b2 b3 : Int} (ha0 : Byte a0) (ha1 : Byte a1) (ha2 : Byte a2) (ha3 : Byte a3) (hb0 : Byte b0) (hb1 : Byte b1) (hb2 : Byte b2) (hb3 : Byte b3) (w : World) :
   Calls Try.prog 4 #[.agg #[.int .u8 a0, .int .u8 a1, .int .u8 a2, .int .u8 a3], .agg #[.int .u8 b0, .int .u8 b1, .int .u8 b2, .int .u8 b3]] w fun e w' => e = .returned (.bool true) ∧ Below w.heap.size w w' := by
  have hk : Keeps (fun W => (Below w.heap.size w W ∧ w.heap.size ≤ W.heap.size) ∧ w.heap.size + 2 ≤ W.heap.size ∧ W.cell? ⟨w.heap.size, 0, none⟩ = some (.int .u8 a0) ∧ W.cell? ⟨w.heap.size, 1, none⟩ = some (.int .u8 a1) ∧ W.cell? ⟨w.heap.size, 2, none⟩ = some (.int .u8 a2) ∧ W.cell? ⟨w.heap.size, 3, none⟩ = some (.int .u8 a3) ∧ W.cell? ⟨w.heap.size + 1, 0, none⟩ = some (.int .u8 b0) ∧ W.cell? ⟨w.heap.size + 1, 1, none⟩ = some (.int .u8 b1) ∧ W.cell? ⟨w.heap.size + 1, 2, none⟩ = some (.int .u8 b2) ∧ W.cell? ⟨w.heap.size + 1, 3, none⟩ = some (.int .u8 b3)) := by
    repeat' (first | exact Keeps.below _ | exact Keeps.size _ | exact Keeps.cell _ _ | apply Keeps.and)
  have hq := eql_col
  have g0 : decide (a0 < mixc a0 b0) = false := decide_eq_false (by have := mixc_le ha0 hb0; omega)
  have k0 : decide (b0 < mixc a0 b0) = false := decide_eq_false (by have := mixc_le' ha0 hb0; omega)
  have g1 : decide (a1 < mixc a1 b1) = false := decide_eq_false (by have := mixc_le ha1 hb1; omega)
  have k1 : decide (b1 < mixc a1 b1) = false := decide_eq_false (by have := mixc_le' ha1 hb1; omega)
  have g2 : decide (a2 < mixc a2 b2) = false := decide_eq_false (by have := mixc_le ha2 hb2; omega)
  have k2 : decide (b2 < mixc a2 b2) = false := decide_eq_false (by have := mixc_le' ha2 hb2; omega)
  have g3 : decide (a3 < mixc a3 b3) = false := decide_eq_false (by have := mixc_le ha3 hb3; omega)
  have k3 : decide (b3 < mixc a3 b3) = false := decide_eq_false (by have := mixc_le' ha3 hb3; omega)
  go_enter Try.func4, Try.ntmps4
  go_wp2_with fail
  refine (alive_any _).mono ?_
  rintro e w1 ⟨rfl, bel1⟩
  have s1 := hk _ _ bel1 (by (refine ⟨⟨?_, by first | omega | (simp; done) | (simp; omega)⟩, by first | omega | (simp; done) | (simp; omega), by simp [go_sem], by simp [go_sem], by simp [go_sem], by simp [go_sem], by simp [go_sem], by simp [go_sem], by simp [go_sem], by simp [go_sem]⟩; repeat' (first | exact Below.refl _ _ | assumption | apply Below.drew | refine Below.alloc ?_ (by first | omega | (simp; done) | (simp; omega)) _)))
  dsimp only at s1
  go_wp2_with fail
  refine (mix_any ha0 ha1 ha2 ha3 hb0 hb1 hb2 hb3 _).mono ?_
  rintro e w2 ⟨rfl, bel2⟩
  have s2 := hk _ _ bel2 s1
  dsimp only at s2
  clear s1
  have hz := s2.2.1
  have hk1 : Keeps (fun W => ((Below w.heap.size w W ∧ w.heap.size ≤ W.heap.size) ∧ w.heap.size + 2 ≤ W.heap.size ∧ W.cell? ⟨w.heap.size, 0, none⟩ = some (.int .u8 a0) ∧ W.cell? ⟨w.heap.size, 1, none⟩ = some (.int .u8 a1) ∧ W.cell? ⟨w.heap.size, 2, none⟩ = some (.int .u8 a2) ∧ W.cell? ⟨w.heap.size, 3, none⟩ = some (.int .u8 a3) ∧ W.cell? ⟨w.heap.size + 1, 0, none⟩ = some (.int .u8 b0) ∧ W.cell? ⟨w.heap.size + 1, 1, none⟩ = some (.int .u8 b1) ∧ W.cell? ⟨w.heap.size + 1, 2, none⟩ = some (.int .u8 b2) ∧ W.cell? ⟨w.heap.size + 1, 3, none⟩ = some (.int .u8 b3)) ∧ W.cell? ⟨w2.heap.size, 0, none⟩ = some (.int .u8 (mixc a0 b0)) ∧ W.cell? ⟨w2.heap.size, 1, none⟩ = some (.int .u8 (mixc a1 b1)) ∧ W.cell? ⟨w2.heap.size, 2, none⟩ = some (.int .u8 (mixc a2 b2)) ∧ W.cell? ⟨w2.heap.size, 3, none⟩ = some (.int .u8 (mixc a3 b3))) := by
    repeat' (first | exact Keeps.below _ | exact Keeps.size _ | exact Keeps.cell _ _ | apply Keeps.and)
  go_wp2
  refine wp_loop_rounds 5 ?_
  rw [rounds_succ]; go_wp2
  go_region_held3 (fun W => ((Below w.heap.size w W ∧ w.heap.size ≤ W.heap.size) ∧ w.heap.size + 2 ≤ W.heap.size ∧ W.cell? ⟨w.heap.size, 0, none⟩ = some (.int .u8 a0) ∧ W.cell? ⟨w.heap.size, 1, none⟩ = some (.int .u8 a1) ∧ W.cell? ⟨w.heap.size, 2, none⟩ = some (.int .u8 a2) ∧ W.cell? ⟨w.heap.size, 3, none⟩ = some (.int .u8 a3) ∧ W.cell? ⟨w.heap.size + 1, 0, none⟩ = some (.int .u8 b0) ∧ W.cell? ⟨w.heap.size + 1, 1, none⟩ = some (.int .u8 b1) ∧ W.cell? ⟨w.heap.size + 1, 2, none⟩ = some (.int .u8 b2) ∧ W.cell? ⟨w.heap.size + 1, 3, none⟩ = some (.int .u8 b3)) ∧ W.cell? ⟨w2.heap.size, 0, none⟩ = some (.int .u8 (mixc a0 b0)) ∧ W.cell? ⟨w2.heap.size, 1, none⟩ = some (.int .u8 (mixc a1 b1)) ∧ W.cell? ⟨w2.heap.size, 2, none⟩ = some (.int .u8 (mixc a2 b2)) ∧ W.cell? ⟨w2.heap.size, 3, none⟩ = some (.int .u8 (mixc a3 b3))) ((refine ⟨hk _ _ ?_ s2, by simp [go_sem], by simp [go_sem], by simp [go_sem], by simp [go_sem]⟩; repeat' (first | exact Below.refl _ _ | assumption | apply Below.drew | refine Below.alloc ?_ (by first | omega | (simp; done) | (simp; omega)) _))) (fail)
  go_wp2
  rw [rounds_succ]; go_wp2
  go_region_held3 (fun W => ((Below w.heap.size w W ∧ w.heap.size ≤ W.heap.size) ∧ w.heap.size + 2 ≤ W.heap.size ∧ W.cell? ⟨w.heap.size, 0, none⟩ = some (.int .u8 a0) ∧ W.cell? ⟨w.heap.size, 1, none⟩ = some (.int .u8 a1) ∧ W.cell? ⟨w.heap.size, 2, none⟩ = some (.int .u8 a2) ∧ W.cell? ⟨w.heap.size, 3, none⟩ = some (.int .u8 a3) ∧ W.cell? ⟨w.heap.size + 1, 0, none⟩ = some (.int .u8 b0) ∧ W.cell? ⟨w.heap.size + 1, 1, none⟩ = some (.int .u8 b1) ∧ W.cell? ⟨w.heap.size + 1, 2, none⟩ = some (.int .u8 b2) ∧ W.cell? ⟨w.heap.size + 1, 3, none⟩ = some (.int .u8 b3)) ∧ W.cell? ⟨w2.heap.size, 0, none⟩ = some (.int .u8 (mixc a0 b0)) ∧ W.cell? ⟨w2.heap.size, 1, none⟩ = some (.int .u8 (mixc a1 b1)) ∧ W.cell? ⟨w2.heap.size, 2, none⟩ = some (.int .u8 (mixc a2 b2)) ∧ W.cell? ⟨w2.heap.size, 3, none⟩ = some (.int .u8 (mixc a3 b3))) ((refine ⟨hk _ _ ?_ s2, by simp [go_sem], by simp [go_sem], by simp [go_sem], by simp [go_sem]⟩; repeat' (first | exact Below.refl _ _ | assumption | apply Below.drew | refine Below.alloc ?_ (by first | omega | (simp; done) | (simp; omega)) _))) (fail)
  go_wp2
  rw [rounds_succ]; go_wp2
  go_region_held3 (fun W => ((Below w.heap.size w W ∧ w.heap.size ≤ W.heap.size) ∧ w.heap.size + 2 ≤ W.heap.size ∧ W.cell? ⟨w.heap.size, 0, none⟩ = some (.int .u8 a0) ∧ W.cell? ⟨w.heap.size, 1, none⟩ = some (.int .u8 a1) ∧ W.cell? ⟨w.heap.size, 2, none⟩ = some (.int .u8 a2) ∧ W.cell? ⟨w.heap.size, 3, none⟩ = some (.int .u8 a3) ∧ W.cell? ⟨w.heap.size + 1, 0, none⟩ = some (.int .u8 b0) ∧ W.cell? ⟨w.heap.size + 1, 1, none⟩ = some (.int .u8 b1) ∧ W.cell? ⟨w.heap.size + 1, 2, none⟩ = some (.int .u8 b2) ∧ W.cell? ⟨w.heap.size + 1, 3, none⟩ = some (.int .u8 b3)) ∧ W.cell? ⟨w2.heap.size, 0, none⟩ = some (.int .u8 (mixc a0 b0)) ∧ W.cell? ⟨w2.heap.size, 1, none⟩ = some (.int .u8 (mixc a1 b1)) ∧ W.cell? ⟨w2.heap.size, 2, none⟩ = some (.int .u8 (mixc a2 b2)) ∧ W.cell? ⟨w2.heap.size, 3, none⟩ = some (.int .u8 (mixc a3 b3))) ((refine ⟨hk _ _ ?_ s2, by simp [go_sem], by simp [go_sem], by simp [go_sem], by simp [go_sem]⟩; repeat' (first | exact Below.refl _ _ | assumption | apply Below.drew | refine Below.alloc ?_ (by first | omega | (simp; done) | (simp; omega)) _))) (fail)
  go_wp2
  rw [rounds_succ]; go_wp2
  go_region_held3 (fun W => ((Below w.heap.size w W ∧ w.heap.size ≤ W.heap.size) ∧ w.heap.size + 2 ≤ W.heap.size ∧ W.cell? ⟨w.heap.size, 0, none⟩ = some (.int .u8 a0) ∧ W.cell? ⟨w.heap.size, 1, none⟩ = some (.int .u8 a1) ∧ W.cell? ⟨w.heap.size, 2, none⟩ = some (.int .u8 a2) ∧ W.cell? ⟨w.heap.size, 3, none⟩ = some (.int .u8 a3) ∧ W.cell? ⟨w.heap.size + 1, 0, none⟩ = some (.int .u8 b0) ∧ W.cell? ⟨w.heap.size + 1, 1, none⟩ = some (.int .u8 b1) ∧ W.cell? ⟨w.heap.size + 1, 2, none⟩ = some (.int .u8 b2) ∧ W.cell? ⟨w.heap.size + 1, 3, none⟩ = some (.int .u8 b3)) ∧ W.cell? ⟨w2.heap.size, 0, none⟩ = some (.int .u8 (mixc a0 b0)) ∧ W.cell? ⟨w2.heap.size, 1, none⟩ = some (.int .u8 (mixc a1 b1)) ∧ W.cell? ⟨w2.heap.size, 2, none⟩ = some (.int .u8 (mixc a2 b2)) ∧ W.cell? ⟨w2.heap.size, 3, none⟩ = some (.int .u8 (mixc a3 b3))) ((refine ⟨hk _ _ ?_ s2, by simp [go_sem], by simp [go_sem], by simp [go_sem], by simp [go_sem]⟩; repeat' (first | exact Below.refl _ _ | assumption | apply Below.drew | refine Below.alloc ?_ (by first | omega | (simp; done) | (simp; omega)) _))) (fail)
  go_wp2
  rw [rounds_succ]; go_wp2
  go_region_held3 (fun W => ((Below w.heap.size w W ∧ w.heap.size ≤ W.heap.size) ∧ w.heap.size + 2 ≤ W.heap.size ∧ W.cell? ⟨w.heap.size, 0, none⟩ = some (.int .u8 a0) ∧ W.cell? ⟨w.heap.size, 1, none⟩ = some (.int .u8 a1) ∧ W.cell? ⟨w.heap.size, 2, none⟩ = some (.int .u8 a2) ∧ W.cell? ⟨w.heap.size, 3, none⟩ = some (.int .u8 a3) ∧ W.cell? ⟨w.heap.size + 1, 0, none⟩ = some (.int .u8 b0) ∧ W.cell? ⟨w.heap.size + 1, 1, none⟩ = some (.int .u8 b1) ∧ W.cell? ⟨w.heap.size + 1, 2, none⟩ = some (.int .u8 b2) ∧ W.cell? ⟨w.heap.size + 1, 3, none⟩ = some (.int .u8 b3)) ∧ W.cell? ⟨w2.heap.size, 0, none⟩ = some (.int .u8 (mixc a0 b0)) ∧ W.cell? ⟨w2.heap.size, 1, none⟩ = some (.int .u8 (mixc a1 b1)) ∧ W.cell? ⟨w2.heap.size, 2, none⟩ = some (.int .u8 (mixc a2 b2)) ∧ W.cell? ⟨w2.heap.size, 3, none⟩ = some (.int .u8 (mixc a3 b3))) (first | exact hk1 _ _ hbel (by assumption) | (refine ⟨hk _ _ ?_ s2, by simp [go_sem], by simp [go_sem], by simp [go_sem], by simp [go_sem]⟩; repeat' (first | exact Below.refl _ _ | assumption | apply Below.drew | refine Below.alloc ?_ (by first | omega | (simp; done) | (simp; omega)) _)))
    (first | (go_at_call 13; (with_reducible refine (mix_turned ha0 ha1 ha2 ha3 hb0 hb1 hb2 hb3 _).mono ?_); rintro e w' ⟨rfl, hbel⟩)
           | (go_at_call 13; (with_reducible refine (mix_white ha0 ha1 ha2 ha3 _).mono ?_); rintro e w' ⟨rfl, hbel⟩)
           | (go_at_call 13; (with_reducible refine (mix_zero ha0 ha1 ha2 ha3 _).mono ?_); rintro e w' ⟨rfl, hbel⟩)
           | (go_at_call 18; (with_reducible refine (white_any _).mono ?_); rintro e w' ⟨rfl, hbel⟩))
  go_wp2
  go_ret
  exact ⟨rfl, (‹((Below w.heap.size w _ ∧ _) ∧ _) ∧ _›).1.1.1⟩
end Go.Proofs.Ytgcappooiecaiaa
