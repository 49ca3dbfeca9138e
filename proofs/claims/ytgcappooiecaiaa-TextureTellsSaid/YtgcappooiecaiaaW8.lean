/- The walk of dioramalaw09.TextureEach. -/
import Derived.Test.YtgcappooiecaiaaW7
namespace Go.Proofs.Ytgcappooiecaiaa
open Go.RowKit
set_option linter.unusedVariables false

/-- The first place in a column. -/
theorem first_place {W x : Int} (h0 : 1 ≤ W) (h1 : W ≤ 16) (x0 : 0 ≤ x) (x1 : x < W) :
    (0 ≤ (256 * x + W - 1) / W ∧ (256 * x + W - 1) / W ≤ 255) ∧ (256 * x + W - 1) / W * W / 256 = x := by
  have a := Int.mul_ediv_add_emod (256 * x + W - 1) W
  have b := Int.emod_nonneg (256 * x + W - 1) (b := W) (by omega)
  have c := Int.emod_lt_of_pos (256 * x + W - 1) (b := W) (by omega)
  have d : 0 ≤ (256 * x + W - 1) / W := Int.ediv_nonneg (by omega) (by omega)
  generalize (256 * x + W - 1) / W = q at *
  generalize (256 * x + W - 1) % W = r at *
  rw [Int.mul_comm] at a
  refine ⟨⟨d, ?_⟩, ?_⟩
  · by_cases h : q ≤ 255
    · exact h
    · have : 256 * W ≤ q * W := Int.mul_le_mul_of_nonneg_right (by omega) (by omega)
      omega
  · generalize q * W = p at *
    omega

set_option maxHeartbeats 1000000 in
theorem each_out (W H x y : Int) (A : Option Addr) (n c : Nat) (w : World) (h : ¬ (May W H n ∧ (0 ≤ x ∧ x < W) ∧ (0 ≤ y ∧ y < H))) :
    Calls Try.prog 6 #[.agg #[.int .i64 W, .int .i64 H, .slice A n c], .int .i64 x, .int .i64 y] w fun e w' => e = .returned (.bool true) ∧ Below w.heap.size w w' := by
  have hk : Keeps (fun Wo => (Below w.heap.size w Wo ∧ w.heap.size ≤ Wo.heap.size) ∧ w.heap.size + 1 ≤ Wo.heap.size ∧ Wo.cell? ⟨w.heap.size, 0, none⟩ = some (.int .i64 W) ∧ Wo.cell? ⟨w.heap.size, 1, none⟩ = some (.int .i64 H) ∧ Wo.cell? ⟨w.heap.size, 2, none⟩ = some (.slice A n c)) := by
    repeat' (first | exact Keeps.below _ | exact Keeps.size _ | exact Keeps.cell _ _ | apply Keeps.and)
  have g : ¬ May W H n ∨ May W H n ∧ (decide (x < 0) = true ∨ (decide (x < 0) = false ∧ decide (W ≤ x) = true) ∨ (decide (x < 0) = false ∧ decide (W ≤ x) = false ∧ decide (y < 0) = true) ∨ (decide (x < 0) = false ∧ decide (W ≤ x) = false ∧ decide (y < 0) = false ∧ decide (H ≤ y) = true)) := by
    by_cases m : May W H n
    · refine .inr ⟨m, ?_⟩
      have : ¬ ((0 ≤ x ∧ x < W) ∧ (0 ≤ y ∧ y < H)) := fun e => h ⟨m, e⟩
      simp only [decide_eq_true_eq, decide_eq_false_iff_not]
      omega
    · exact .inl m
  clear h
  rcases g with hm | ⟨hm, g⟩
  · have hcheck := check_bad W H A n c
    go_enter Try.func6, Try.ntmps6
    go_wp2_with fail
    refine (alive09_any _).mono ?_
    rintro e w1 ⟨rfl, bel1⟩
    have s1 := hk _ _ bel1 (by (refine ⟨⟨?_, by first | omega | (simp; done) | (simp; omega)⟩, by first | omega | (simp; done) | (simp; omega), by simp [go_sem], by simp [go_sem], by simp [go_sem]⟩; repeat' (first | exact Below.refl _ _ | assumption | apply Below.drew | refine Below.setCell ?_ (by first | omega | (simp; done) | (simp; omega)) _ | refine Below.alloc ?_ (by first | omega | (simp; done) | (simp; omega)) _)))
    dsimp only at s1
    go_wp2_with fail
    refine (hcheck _ hm).mono ?_
    rintro e w2 ⟨rfl, bel2⟩
    have s2 := hk _ _ bel2 s1
    dsimp only at s2
    go_wp2
    go_ret
    exact ⟨rfl, s2.1.1⟩
  · have hcheck := check_ok W H A n c
    rcases g with g1 | ⟨g1, g2⟩ | ⟨g1, g2, g3⟩ | ⟨g1, g2, g3, g4⟩
    all_goals
      go_enter Try.func6, Try.ntmps6
      go_wp2_with fail
      refine (alive09_any _).mono ?_
      rintro e w1 ⟨rfl, bel1⟩
      have s1 := hk _ _ bel1 (by (refine ⟨⟨?_, by first | omega | (simp; done) | (simp; omega)⟩, by first | omega | (simp; done) | (simp; omega), by simp [go_sem], by simp [go_sem], by simp [go_sem]⟩; repeat' (first | exact Below.refl _ _ | assumption | apply Below.drew | refine Below.setCell ?_ (by first | omega | (simp; done) | (simp; omega)) _ | refine Below.alloc ?_ (by first | omega | (simp; done) | (simp; omega)) _)))
      dsimp only at s1
      go_wp2_with fail
      refine (hcheck _ hm).mono ?_
      rintro e w2 ⟨rfl, bel2⟩
      have s2 := hk _ _ bel2 s1
      dsimp only at s2
      clear s1
      go_wp2
      go_ret
      exact ⟨rfl, s2.1.1⟩

set_option maxHeartbeats 1000000 in
theorem each_in (W H x y : Int) (A : Option Addr) (n c : Nat) (f : Nat → Nat → Int) (w : World) (hm : May W H n) (hp : Px w A n f) (hx : 0 ≤ x ∧ x < W) (hy : 0 ≤ y ∧ y < H) :
    Calls Try.prog 6 #[.agg #[.int .i64 W, .int .i64 H, .slice A n c], .int .i64 x, .int .i64 y] w fun e w' => e = .returned (.bool true) ∧ Below w.heap.size w w' := by
  obtain ⟨⟨h0, h1⟩, ⟨h2, h3⟩, hn⟩ := id hm
  obtain ⟨x0, x1⟩ := hx
  obtain ⟨y0, y1⟩ := hy
  obtain ⟨hn0, hn1⟩ := area_bd h0 h1 h2 h3 hn
  obtain ⟨⟨u0, u1⟩, eu⟩ := first_place h0 h1 x0 x1
  obtain ⟨⟨v0, v1⟩, ev⟩ := first_place h2 h3 y0 y1
  obtain ⟨_, _, _, t0, t1⟩ := tix_bd (n := n) h0 h1 h2 h3 hn u0 u1 v0 v1
  have hat := at_ok W H ((256 * x + W - 1) / W) ((256 * y + H - 1) / H) A n c f
  unfold tix at t0 t1 hat
  rw [eu, ev] at t0 t1 hat
  have p0 : 0 ≤ y * W := Int.mul_nonneg y0 (by omega)
  have p1 : y * W ≤ 240 := by
    have a : y * W ≤ 15 * W := Int.mul_le_mul_of_nonneg_right (by omega) (by omega)
    omega
  generalize hp1 : y * W = p at *
  obtain ⟨k, hk0⟩ := Int.eq_ofNat_of_zero_le t0
  rw [hk0] at t1 hat
  rw [Int.toNat_natCast] at hat
  obtain ⟨b, off, rfl, hbl, hc⟩ := id hp (by omega)
  have c0 := hc k (by omega) 0 (by omega)
  have c1 := hc k (by omega) 1 (by omega)
  have c2 := hc k (by omega) 2 (by omega)
  have c3 := hc k (by omega) 3 (by omega)
  simp only [Nat.add_zero] at c0
  have i0 : (0 : Int) ≤ (k : Int) := by omega
  have hw0 : ¬ W = 0 := by omega
  have hh0 : ¬ H = 0 := by omega
  have hcheck := check_ok W H (some ⟨b, off, none⟩) n c
  have hk : Keeps (fun Wo => (Below w.heap.size w Wo ∧ w.heap.size ≤ Wo.heap.size) ∧ w.heap.size + 1 ≤ Wo.heap.size ∧ Wo.cell? ⟨w.heap.size, 0, none⟩ = some (.int .i64 W) ∧ Wo.cell? ⟨w.heap.size, 1, none⟩ = some (.int .i64 H) ∧ Wo.cell? ⟨w.heap.size, 2, none⟩ = some (.slice (some ⟨b, off, none⟩) n c) ∧ Wo.cell? ⟨b, off + k * 4, none⟩ = some (.int .u8 (f k 0)) ∧ Wo.cell? ⟨b, off + k * 4 + 1, none⟩ = some (.int .u8 (f k 1)) ∧ Wo.cell? ⟨b, off + k * 4 + 2, none⟩ = some (.int .u8 (f k 2)) ∧ Wo.cell? ⟨b, off + k * 4 + 3, none⟩ = some (.int .u8 (f k 3))) := by
    repeat' (first | exact Keeps.below _ | exact Keeps.size _ | exact Keeps.cell _ _ | apply Keeps.and)
  have hqe := eql_col
  have Hp := Lib.hid hp
  have Hat := Lib.hid hat
  clear hp hc hn hat eu ev
  go_enter Try.func6, Try.ntmps6
  go_wp2_with fail
  refine (alive09_any _).mono ?_
  rintro e w1 ⟨rfl, bel1⟩
  have s1 := hk _ _ bel1 (by (refine ⟨⟨?_, by first | omega | (simp; done) | (simp; omega)⟩, by first | omega | (simp; done) | (simp; omega), by simp [go_sem], by simp [go_sem], by simp [go_sem], by simp [go_sem, *], by simp [go_sem, *], by simp [go_sem, *], by simp [go_sem, *]⟩; repeat' (first | exact Below.refl _ _ | assumption | apply Below.drew | refine Below.setCell ?_ (by first | omega | (simp; done) | (simp; omega)) _ | refine Below.alloc ?_ (by first | omega | (simp; done) | (simp; omega)) _)))
  dsimp only at s1
  go_wp2_with fail
  refine (hcheck _ hm).mono ?_
  rintro e w2 ⟨rfl, bel2⟩
  have s2 := hk _ _ bel2 s1
  dsimp only at s2
  clear s1 c0 c1 c2 c3
  go_wp2_with fail
  go_region_held3 (fun Wo => (Below w.heap.size w Wo ∧ w.heap.size ≤ Wo.heap.size) ∧ w.heap.size + 1 ≤ Wo.heap.size ∧ Wo.cell? ⟨w.heap.size, 0, none⟩ = some (.int .i64 W) ∧ Wo.cell? ⟨w.heap.size, 1, none⟩ = some (.int .i64 H) ∧ Wo.cell? ⟨w.heap.size, 2, none⟩ = some (.slice (some ⟨b, off, none⟩) n c) ∧ Wo.cell? ⟨b, off + k * 4, none⟩ = some (.int .u8 (f k 0)) ∧ Wo.cell? ⟨b, off + k * 4 + 1, none⟩ = some (.int .u8 (f k 1)) ∧ Wo.cell? ⟨b, off + k * 4 + 2, none⟩ = some (.int .u8 (f k 2)) ∧ Wo.cell? ⟨b, off + k * 4 + 3, none⟩ = some (.int .u8 (f k 3))) (exact hk _ _ (by repeat' (first | exact Below.refl _ _ | assumption | apply Below.drew | refine Below.setCell ?_ (by first | omega | (simp; done) | (simp; omega)) _ | refine Below.alloc ?_ (by first | omega | (simp; done) | (simp; omega)) _)) s2) (fail)
  go_wp2_with fail
  refine (Hat.out _ hm (Hp.out.below (by have := s2.1.1; repeat' (first | exact Below.refl _ _ | assumption | apply Below.drew | refine Below.setCell ?_ (by first | omega | (simp; done) | (simp; omega)) _ | refine Below.alloc ?_ (by first | omega | (simp; done) | (simp; omega)) _))) u0 u1 v0 v1).mono ?_
  rintro e w3 ⟨rfl, bel3⟩
  have s3 := hk _ _ bel3 (hk _ _ (by repeat' (first | exact Below.refl _ _ | assumption | apply Below.drew | refine Below.setCell ?_ (by first | omega | (simp; done) | (simp; omega)) _ | refine Below.alloc ?_ (by first | omega | (simp; done) | (simp; omega)) _)) s2)
  dsimp only at s3
  clear s2
  have hz := s3.2.1
  have e1 : IntKind.i64.wrap p = p := IntWalk.i64_in _ (by omega)
  have e2 : IntKind.i64.wrap (k : Int) = ↑k := IntWalk.i64_in _ (by omega)
  go_wp2_with fail
  go_region_held3 (fun Wo => ((Below w.heap.size w Wo ∧ w.heap.size ≤ Wo.heap.size) ∧ w.heap.size + 1 ≤ Wo.heap.size ∧ Wo.cell? ⟨w.heap.size, 0, none⟩ = some (.int .i64 W) ∧ Wo.cell? ⟨w.heap.size, 1, none⟩ = some (.int .i64 H) ∧ Wo.cell? ⟨w.heap.size, 2, none⟩ = some (.slice (some ⟨b, off, none⟩) n c) ∧ Wo.cell? ⟨b, off + k * 4, none⟩ = some (.int .u8 (f k 0)) ∧ Wo.cell? ⟨b, off + k * 4 + 1, none⟩ = some (.int .u8 (f k 1)) ∧ Wo.cell? ⟨b, off + k * 4 + 2, none⟩ = some (.int .u8 (f k 2)) ∧ Wo.cell? ⟨b, off + k * 4 + 3, none⟩ = some (.int .u8 (f k 3))) ∧ Wo.cell? ⟨w3.heap.size, 0, none⟩ = some (.int .u8 (f k 0)) ∧ Wo.cell? ⟨w3.heap.size, 1, none⟩ = some (.int .u8 (f k 1)) ∧ Wo.cell? ⟨w3.heap.size, 2, none⟩ = some (.int .u8 (f k 2)) ∧ Wo.cell? ⟨w3.heap.size, 3, none⟩ = some (.int .u8 (f k 3))) ((refine ⟨hk _ _ ?_ s3, by simp [go_sem], by simp [go_sem], by simp [go_sem], by simp [go_sem]⟩; repeat' (first | exact Below.refl _ _ | assumption | apply Below.drew | refine Below.setCell ?_ (by first | omega | (simp; done) | (simp; omega)) _ | refine Below.alloc ?_ (by first | omega | (simp; done) | (simp; omega)) _))) (fail)
  clear e1 e2
  go_wp2
  go_ret
  exact ⟨rfl, by have := s3.1.1; repeat' (first | exact Below.refl _ _ | assumption | apply Below.drew | refine Below.setCell ?_ (by first | omega | (simp; done) | (simp; omega)) _ | refine Below.alloc ?_ (by first | omega | (simp; done) | (simp; omega)) _)⟩
end Go.Proofs.Ytgcappooiecaiaa
