/- The walks of texture.At where it refuses; of the reference's May, Texel, At. -/
import Derived.Test.YtgcappooiecaiaaW5
namespace Go.Proofs.Ytgcappooiecaiaa
open Go.RowKit
set_option linter.unusedVariables false

set_option maxHeartbeats 600000 in
theorem at_bad (W H u v : Int) (A : Option Addr) (n c : Nat) (w : World) (hm : ¬ May W H n) :
    Calls Try.prog 21 #[.agg #[.int .i64 W, .int .i64 H, .slice A n c], .int .i64 u, .int .i64 v] w fun e w' => e = .returned (.tuple #[.agg #[.int .u8 0, .int .u8 0, .int .u8 0, .int .u8 0], .int .i64 8]) ∧ Below w.heap.size w w' := by
  have hcheck := check_bad W H A n c
  have hkp : Keeps (fun Wo => (Below w.heap.size w Wo ∧ w.heap.size ≤ Wo.heap.size) ∧ w.heap.size + 2 ≤ Wo.heap.size ∧ Wo.cell? ⟨w.heap.size, 0, none⟩ = some (.int .i64 W) ∧ Wo.cell? ⟨w.heap.size, 1, none⟩ = some (.int .i64 H) ∧ Wo.cell? ⟨w.heap.size, 2, none⟩ = some (.slice A n c) ∧ Wo.cell? ⟨w.heap.size + 1, 0, none⟩ = some (.int .u8 0) ∧ Wo.cell? ⟨w.heap.size + 1, 1, none⟩ = some (.int .u8 0) ∧ Wo.cell? ⟨w.heap.size + 1, 2, none⟩ = some (.int .u8 0) ∧ Wo.cell? ⟨w.heap.size + 1, 3, none⟩ = some (.int .u8 0)) := by
    repeat' (first | exact Keeps.below _ | exact Keeps.size _ | exact Keeps.cell _ _ | apply Keeps.and)
  go_enter Try.func21, Try.ntmps21
  go_wp2_with fail
  refine (hcheck _ hm).mono ?_
  rintro e w1 ⟨rfl, bel1⟩
  have s1 := hkp _ _ bel1 (by (refine ⟨⟨?_, by first | omega | (simp; done) | (simp; omega)⟩, by first | omega | (simp; done) | (simp; omega), by simp [go_sem], by simp [go_sem], by simp [go_sem], by simp [go_sem], by simp [go_sem], by simp [go_sem], by simp [go_sem]⟩; repeat' (first | exact Below.refl _ _ | assumption | apply Below.drew | refine Below.setCell ?_ (by first | omega | (simp; done) | (simp; omega)) _ | refine Below.alloc ?_ (by first | omega | (simp; done) | (simp; omega)) _)))
  dsimp only at s1
  have hz := s1.2.1
  have hf := frozen_below bel1 (b := w.heap.size + 1) (by simp) (fun j => by simp [go_sem])
  go_wp2
  refine bodyPost_ret (v := .tuple #[.agg #[_, _, _, _], _]) (by simp [results, Try.results21, go_sem, s1]) rfl ⟨rfl, ?_⟩
  have bel0 := s1.1.1
  repeat' (first | exact Below.refl _ _ | assumption | apply Below.drew | refine Below.setCell ?_ (by first | omega | (simp; done) | (simp; omega)) _ | refine Below.alloc ?_ (by first | omega | (simp; done) | (simp; omega)) _)

set_option maxHeartbeats 600000 in
theorem at_arg (W H u v : Int) (A : Option Addr) (n c : Nat) (w : World) (hm : May W H n) (h : ¬ ((0 ≤ u ∧ u ≤ 255) ∧ (0 ≤ v ∧ v ≤ 255))) :
    Calls Try.prog 21 #[.agg #[.int .i64 W, .int .i64 H, .slice A n c], .int .i64 u, .int .i64 v] w fun e w' => e = .returned (.tuple #[.agg #[.int .u8 0, .int .u8 0, .int .u8 0, .int .u8 0], .int .i64 2]) ∧ Below w.heap.size w w' := by
  have hcheck := check_ok W H A n c
  have hkp : Keeps (fun Wo => (Below w.heap.size w Wo ∧ w.heap.size ≤ Wo.heap.size) ∧ w.heap.size + 2 ≤ Wo.heap.size ∧ Wo.cell? ⟨w.heap.size, 0, none⟩ = some (.int .i64 W) ∧ Wo.cell? ⟨w.heap.size, 1, none⟩ = some (.int .i64 H) ∧ Wo.cell? ⟨w.heap.size, 2, none⟩ = some (.slice A n c) ∧ Wo.cell? ⟨w.heap.size + 1, 0, none⟩ = some (.int .u8 0) ∧ Wo.cell? ⟨w.heap.size + 1, 1, none⟩ = some (.int .u8 0) ∧ Wo.cell? ⟨w.heap.size + 1, 2, none⟩ = some (.int .u8 0) ∧ Wo.cell? ⟨w.heap.size + 1, 3, none⟩ = some (.int .u8 0)) := by
    repeat' (first | exact Keeps.below _ | exact Keeps.size _ | exact Keeps.cell _ _ | apply Keeps.and)
  obtain ⟨mn, hmn⟩ : ∃ m, (if v < u then v else u) = m := ⟨_, rfl⟩
  obtain ⟨mx, hmx⟩ : ∃ m, (if u < v then v else u) = m := ⟨_, rfl⟩
  have g : decide (mn < 0) = true ∨ (decide (mn < 0) = false ∧ decide (255 < mx) = true) := by
    rw [← hmn, ← hmx]
    by_cases h1 : (if v < u then v else u) < 0
    · exact .inl (decide_eq_true h1)
    · refine .inr ⟨decide_eq_false h1, decide_eq_true ?_⟩
      split at h1 <;> split <;> omega
  clear h
  rcases g with g1 | ⟨g1, g2⟩
  all_goals
    go_enter Try.func21, Try.ntmps21
    go_wp2_with fail
    refine (hcheck _ hm).mono ?_
    rintro e w1 ⟨rfl, bel1⟩
    have s1 := hkp _ _ bel1 (by (refine ⟨⟨?_, by first | omega | (simp; done) | (simp; omega)⟩, by first | omega | (simp; done) | (simp; omega), by simp [go_sem], by simp [go_sem], by simp [go_sem], by simp [go_sem], by simp [go_sem], by simp [go_sem], by simp [go_sem]⟩; repeat' (first | exact Below.refl _ _ | assumption | apply Below.drew | refine Below.setCell ?_ (by first | omega | (simp; done) | (simp; omega)) _ | refine Below.alloc ?_ (by first | omega | (simp; done) | (simp; omega)) _)))
    dsimp only at s1
    have hz := s1.2.1
    have hf := frozen_below bel1 (b := w.heap.size + 1) (by simp) (fun j => by simp [go_sem])
    go_wp2
    refine bodyPost_ret (v := .tuple #[.agg #[_, _, _, _], _]) (by simp [results, Try.results21, go_sem, s1]) rfl ⟨rfl, ?_⟩
    have bel0 := s1.1.1
    repeat' (first | exact Below.refl _ _ | assumption | apply Below.drew | refine Below.setCell ?_ (by first | omega | (simp; done) | (simp; omega)) _ | refine Below.alloc ?_ (by first | omega | (simp; done) | (simp; omega)) _)

set_option maxHeartbeats 600000 in
theorem may_yes (W H : Int) (A : Option Addr) (n c : Nat) (w : World) (h : May W H n) :
    Calls Try.prog 30 #[.agg #[.int .i64 W, .int .i64 H, .slice A n c]] w fun e w' => e = .returned (.bool true) ∧ Below w.heap.size w w' := by
  obtain ⟨⟨h0, h1⟩, ⟨h2, h3⟩, hn⟩ := h
  obtain ⟨hn0, hn1⟩ := area_bd h0 h1 h2 h3 hn
  go_enter Try.func30, Try.ntmps30
  go_wp2
  go_ret
  exact ⟨rfl, by repeat' (first | exact Below.refl _ _ | assumption | apply Below.drew | refine Below.setCell ?_ (by first | omega | (simp; done) | (simp; omega)) _ | refine Below.alloc ?_ (by first | omega | (simp; done) | (simp; omega)) _)⟩
set_option maxHeartbeats 600000 in
theorem may_no (W H : Int) (A : Option Addr) (n c : Nat) (w : World) (h : ¬ May W H n) :
    Calls Try.prog 30 #[.agg #[.int .i64 W, .int .i64 H, .slice A n c]] w fun e w' => e = .returned (.bool false) ∧ Below w.heap.size w w' := by
  have h : W ≤ 0 ∨ (1 ≤ W ∧ 16 < W) ∨ (1 ≤ W ∧ W ≤ 16) ∧ H ≤ 0 ∨ (1 ≤ W ∧ W ≤ 16) ∧ (1 ≤ H ∧ 16 < H) ∨ (1 ≤ W ∧ W ≤ 16) ∧ (1 ≤ H ∧ H ≤ 16) ∧ W * H ≠ ↑n := by
    unfold May at h
    by_cases a : 1 ≤ W ∧ W ≤ 16
    · by_cases b : 1 ≤ H ∧ H ≤ 16
      · exact .inr (.inr (.inr (.inr ⟨a, b, fun e => h ⟨a, b, e⟩⟩)))
      · by_cases b2 : H ≤ 0
        · exact .inr (.inr (.inl ⟨a, b2⟩))
        · exact .inr (.inr (.inr (.inl ⟨a, by omega, by omega⟩)))
    · by_cases b2 : W ≤ 0
      · exact .inl b2
      · exact .inr (.inl (by omega))
  rcases h with h | ⟨h0, h⟩ | ⟨⟨h0, h1⟩, h⟩ | ⟨⟨h0, h1⟩, h2, h⟩ | ⟨⟨h0, h1⟩, ⟨h2, h3⟩, h⟩
  · have d1 : decide (1 ≤ W) = false := decide_eq_false (by omega)
    go_enter Try.func30, Try.ntmps30
    go_wp2
    go_ret
    exact ⟨rfl, by repeat' (first | exact Below.refl _ _ | assumption | apply Below.drew | refine Below.setCell ?_ (by first | omega | (simp; done) | (simp; omega)) _ | refine Below.alloc ?_ (by first | omega | (simp; done) | (simp; omega)) _)⟩
  · have d1 : decide (W ≤ 16) = false := decide_eq_false (by omega)
    go_enter Try.func30, Try.ntmps30
    go_wp2
    go_ret
    exact ⟨rfl, by repeat' (first | exact Below.refl _ _ | assumption | apply Below.drew | refine Below.setCell ?_ (by first | omega | (simp; done) | (simp; omega)) _ | refine Below.alloc ?_ (by first | omega | (simp; done) | (simp; omega)) _)⟩
  · have d1 : decide (1 ≤ H) = false := decide_eq_false (by omega)
    go_enter Try.func30, Try.ntmps30
    go_wp2
    go_ret
    exact ⟨rfl, by repeat' (first | exact Below.refl _ _ | assumption | apply Below.drew | refine Below.setCell ?_ (by first | omega | (simp; done) | (simp; omega)) _ | refine Below.alloc ?_ (by first | omega | (simp; done) | (simp; omega)) _)⟩
  · have d1 : decide (H ≤ 16) = false := decide_eq_false (by omega)
    go_enter Try.func30, Try.ntmps30
    go_wp2
    go_ret
    exact ⟨rfl, by repeat' (first | exact Below.refl _ _ | assumption | apply Below.drew | refine Below.setCell ?_ (by first | omega | (simp; done) | (simp; omega)) _ | refine Below.alloc ?_ (by first | omega | (simp; done) | (simp; omega)) _)⟩
  · obtain ⟨m, hm⟩ : ∃ m, W * H = m := ⟨_, rfl⟩
    rw [hm] at h
    have hb : 1 ≤ m ∧ m ≤ 256 := by
      have k1 : W * H ≤ 16 * H := Int.mul_le_mul_of_nonneg_right h1 (by omega)
      have k2 : 1 * H ≤ W * H := Int.mul_le_mul_of_nonneg_right h0 (by omega)
      omega
    obtain ⟨hb0, hb1⟩ := hb
    have hne2 : ((n : Int) == m) = false := by simp; omega
    clear h
    go_enter Try.func30, Try.ntmps30
    go_wp2
    go_ret
    exact ⟨rfl, by repeat' (first | exact Below.refl _ _ | assumption | apply Below.drew | refine Below.setCell ?_ (by first | omega | (simp; done) | (simp; omega)) _ | refine Below.alloc ?_ (by first | omega | (simp; done) | (simp; omega)) _)⟩
end Go.Proofs.Ytgcappooiecaiaa
