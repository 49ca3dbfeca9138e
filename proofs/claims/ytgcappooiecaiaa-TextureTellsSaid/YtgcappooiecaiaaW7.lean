/- The walks of the reference's Texel and At; of two and alive of dioramalaw09. -/
import Derived.Test.YtgcappooiecaiaaW6
namespace Go.Proofs.Ytgcappooiecaiaa
open Go.RowKit
set_option linter.unusedVariables false

set_option maxHeartbeats 600000 in
theorem texel_any (W H u v : Int) (A : Option Addr) (n c : Nat) (f : Nat → Nat → Int) (w : World) (hm : May W H n) (hp : Px w A n f)
   (hu0 : 0 ≤ u) (hu1 : u ≤ 255) (hv0 : 0 ≤ v) (hv1 : v ≤ 255) :
    Calls Try.prog 39 #[.agg #[.int .i64 W, .int .i64 H, .slice A n c], .int .i64 u, .int .i64 v] w fun e w' => e = .returned (.agg #[.int .u8 (f (tix W H u v).toNat 0), .int .u8 (f (tix W H u v).toNat 1), .int .u8 (f (tix W H u v).toNat 2), .int .u8 (f (tix W H u v).toNat 3)]) ∧ Below w.heap.size w w' := by
  obtain ⟨⟨h0, h1⟩, ⟨h2, h3⟩, hn⟩ := id hm
  obtain ⟨hn0, hn1⟩ := area_bd h0 h1 h2 h3 hn
  obtain ⟨⟨p0, p1⟩, ⟨q0, q1⟩, ⟨r0, r1⟩, t0, t1⟩ := tix_bd (n := n) h0 h1 h2 h3 hn hu0 hu1 hv0 hv1
  obtain ⟨b, off, rfl, hbl, hc⟩ := hp (by omega)
  obtain ⟨k, hk⟩ := Int.eq_ofNat_of_zero_le t0
  rw [hk] at t1
  rw [hk, Int.toNat_natCast]
  unfold tix at hk
  generalize hp1 : v * H = p at *
  generalize hq1 : u * W = q at *
  generalize hr : p / 256 * W = r at *
  have c0 := hc k (by omega) 0 (by omega)
  have c1 := hc k (by omega) 1 (by omega)
  have c2 := hc k (by omega) 2 (by omega)
  have c3 := hc k (by omega) 3 (by omega)
  simp only [Nat.add_zero] at c0
  have i0 : (0 : Int) ≤ (k : Int) := by omega
  clear hc hp hm hn
  go_enter Try.func39, Try.ntmps39
  go_wp2
  refine bodyPost_ret (v := .agg #[_, _, _, _]) (by simp [results, Try.results39, go_sem]) rfl ⟨rfl, ?_⟩
  repeat' (first | exact Below.refl _ _ | assumption | apply Below.drew | refine Below.setCell ?_ (by first | omega | (simp; done) | (simp; omega)) _ | refine Below.alloc ?_ (by first | omega | (simp; done) | (simp; omega)) _)

set_option maxHeartbeats 600000 in
theorem refat_ok (W H u v : Int) (A : Option Addr) (n c : Nat) (f : Nat → Nat → Int) (w : World) (hm : May W H n) (hp : Px w A n f)
   (hu0 : 0 ≤ u) (hu1 : u ≤ 255) (hv0 : 0 ≤ v) (hv1 : v ≤ 255) :
    Calls Try.prog 26 #[.agg #[.int .i64 W, .int .i64 H, .slice A n c], .int .i64 u, .int .i64 v] w fun e w' => e = .returned (.tuple #[(.agg #[.int .u8 (f (tix W H u v).toNat 0), .int .u8 (f (tix W H u v).toNat 1), .int .u8 (f (tix W H u v).toNat 2), .int .u8 (f (tix W H u v).toNat 3)]), .int .i64 0]) ∧ Below w.heap.size w w' := by
  have hcheck := may_yes W H A n c
  have htex := texel_any W H u v A n c f
  have hkp : Keeps (fun Wo => (Below w.heap.size w Wo ∧ w.heap.size ≤ Wo.heap.size) ∧ w.heap.size + 2 ≤ Wo.heap.size ∧ Wo.cell? ⟨w.heap.size, 0, none⟩ = some (.int .i64 W) ∧ Wo.cell? ⟨w.heap.size, 1, none⟩ = some (.int .i64 H) ∧ Wo.cell? ⟨w.heap.size, 2, none⟩ = some (.slice A n c) ∧ Wo.cell? ⟨w.heap.size + 1, 0, none⟩ = some (.int .u8 0) ∧ Wo.cell? ⟨w.heap.size + 1, 1, none⟩ = some (.int .u8 0) ∧ Wo.cell? ⟨w.heap.size + 1, 2, none⟩ = some (.int .u8 0) ∧ Wo.cell? ⟨w.heap.size + 1, 3, none⟩ = some (.int .u8 0)) := by
    repeat' (first | exact Keeps.below _ | exact Keeps.size _ | exact Keeps.cell _ _ | apply Keeps.and)
  have Hp := Lib.hid hp
  clear hp
  go_enter Try.func26, Try.ntmps26
  go_wp2_with fail
  refine (hcheck _ hm).mono ?_
  rintro e w1 ⟨rfl, bel1⟩
  have s1 := hkp _ _ bel1 (by (refine ⟨⟨?_, by first | omega | (simp; done) | (simp; omega)⟩, by first | omega | (simp; done) | (simp; omega), by simp [go_sem], by simp [go_sem], by simp [go_sem], by simp [go_sem], by simp [go_sem], by simp [go_sem], by simp [go_sem]⟩; repeat' (first | exact Below.refl _ _ | assumption | apply Below.drew | refine Below.setCell ?_ (by first | omega | (simp; done) | (simp; omega)) _ | refine Below.alloc ?_ (by first | omega | (simp; done) | (simp; omega)) _)))
  dsimp only at s1
  go_wp2_with fail
  refine (htex _ hm (Hp.out.below s1.1.1) hu0 hu1 hv0 hv1).mono ?_
  rintro e w2 ⟨rfl, bel2⟩
  have s2 := hkp _ _ bel2 s1
  dsimp only at s2
  have hz := s2.2.1
  have hf1 := frozen_below bel1 (b := w.heap.size + 1) (by simp) (fun j => by simp [go_sem])
  have hf := frozen_below bel2 (b := w.heap.size + 1) (by have := s1.2.1; omega) hf1
  clear s1 hf1
  go_wp2
  refine bodyPost_ret (v := .tuple #[.agg #[_, _, _, _], _]) (by simp [results, Try.results26, go_sem, s2]) rfl ⟨rfl, ?_⟩
  have bel0 := s2.1.1
  repeat' (first | exact Below.refl _ _ | assumption | apply Below.drew | refine Below.setCell ?_ (by first | omega | (simp; done) | (simp; omega)) _ | refine Below.alloc ?_ (by first | omega | (simp; done) | (simp; omega)) _)

set_option maxHeartbeats 600000 in
theorem refat_bad (W H u v : Int) (A : Option Addr) (n c : Nat) (w : World) (hm : ¬ May W H n) :
    Calls Try.prog 26 #[.agg #[.int .i64 W, .int .i64 H, .slice A n c], .int .i64 u, .int .i64 v] w fun e w' => e = .returned (.tuple #[.agg #[.int .u8 0, .int .u8 0, .int .u8 0, .int .u8 0], .int .i64 8]) ∧ Below w.heap.size w w' := by
  have hcheck := may_no W H A n c
  have hkp : Keeps (fun Wo => (Below w.heap.size w Wo ∧ w.heap.size ≤ Wo.heap.size) ∧ w.heap.size + 2 ≤ Wo.heap.size ∧ Wo.cell? ⟨w.heap.size, 0, none⟩ = some (.int .i64 W) ∧ Wo.cell? ⟨w.heap.size, 1, none⟩ = some (.int .i64 H) ∧ Wo.cell? ⟨w.heap.size, 2, none⟩ = some (.slice A n c) ∧ Wo.cell? ⟨w.heap.size + 1, 0, none⟩ = some (.int .u8 0) ∧ Wo.cell? ⟨w.heap.size + 1, 1, none⟩ = some (.int .u8 0) ∧ Wo.cell? ⟨w.heap.size + 1, 2, none⟩ = some (.int .u8 0) ∧ Wo.cell? ⟨w.heap.size + 1, 3, none⟩ = some (.int .u8 0)) := by
    repeat' (first | exact Keeps.below _ | exact Keeps.size _ | exact Keeps.cell _ _ | apply Keeps.and)
  go_enter Try.func26, Try.ntmps26
  go_wp2_with fail
  refine (hcheck _ hm).mono ?_
  rintro e w1 ⟨rfl, bel1⟩
  have s1 := hkp _ _ bel1 (by (refine ⟨⟨?_, by first | omega | (simp; done) | (simp; omega)⟩, by first | omega | (simp; done) | (simp; omega), by simp [go_sem], by simp [go_sem], by simp [go_sem], by simp [go_sem], by simp [go_sem], by simp [go_sem], by simp [go_sem]⟩; repeat' (first | exact Below.refl _ _ | assumption | apply Below.drew | refine Below.setCell ?_ (by first | omega | (simp; done) | (simp; omega)) _ | refine Below.alloc ?_ (by first | omega | (simp; done) | (simp; omega)) _)))
  dsimp only at s1
  have hz := s1.2.1
  have hf := frozen_below bel1 (b := w.heap.size + 1) (by simp) (fun j => by simp [go_sem])
  go_wp2
  refine bodyPost_ret (v := .tuple #[.agg #[_, _, _, _], _]) (by simp [results, Try.results26, go_sem, s1]) rfl ⟨rfl, ?_⟩
  have bel0 := s1.1.1
  repeat' (first | exact Below.refl _ _ | assumption | apply Below.drew | refine Below.setCell ?_ (by first | omega | (simp; done) | (simp; omega)) _ | refine Below.alloc ?_ (by first | omega | (simp; done) | (simp; omega)) _)

set_option maxHeartbeats 600000 in
theorem refat_arg (W H u v : Int) (A : Option Addr) (n c : Nat) (w : World) (hm : May W H n) (h : ¬ ((0 ≤ u ∧ u ≤ 255) ∧ (0 ≤ v ∧ v ≤ 255))) :
    Calls Try.prog 26 #[.agg #[.int .i64 W, .int .i64 H, .slice A n c], .int .i64 u, .int .i64 v] w fun e w' => e = .returned (.tuple #[.agg #[.int .u8 0, .int .u8 0, .int .u8 0, .int .u8 0], .int .i64 2]) ∧ Below w.heap.size w w' := by
  have hcheck := may_yes W H A n c
  have hkp : Keeps (fun Wo => (Below w.heap.size w Wo ∧ w.heap.size ≤ Wo.heap.size) ∧ w.heap.size + 2 ≤ Wo.heap.size ∧ Wo.cell? ⟨w.heap.size, 0, none⟩ = some (.int .i64 W) ∧ Wo.cell? ⟨w.heap.size, 1, none⟩ = some (.int .i64 H) ∧ Wo.cell? ⟨w.heap.size, 2, none⟩ = some (.slice A n c) ∧ Wo.cell? ⟨w.heap.size + 1, 0, none⟩ = some (.int .u8 0) ∧ Wo.cell? ⟨w.heap.size + 1, 1, none⟩ = some (.int .u8 0) ∧ Wo.cell? ⟨w.heap.size + 1, 2, none⟩ = some (.int .u8 0) ∧ Wo.cell? ⟨w.heap.size + 1, 3, none⟩ = some (.int .u8 0)) := by
    repeat' (first | exact Keeps.below _ | exact Keeps.size _ | exact Keeps.cell _ _ | apply Keeps.and)
  have g : decide (u < 0) = true ∨ (decide (u < 0) = false ∧ decide (255 < u) = true) ∨ (decide (u < 0) = false ∧ decide (255 < u) = false ∧ decide (v < 0) = true) ∨ (decide (u < 0) = false ∧ decide (255 < u) = false ∧ decide (v < 0) = false ∧ decide (255 < v) = true) := by
    simp only [decide_eq_true_eq, decide_eq_false_iff_not]
    omega
  clear h
  rcases g with g1 | ⟨g1, g2⟩ | ⟨g1, g2, g3⟩ | ⟨g1, g2, g3, g4⟩
  all_goals
    go_enter Try.func26, Try.ntmps26
    go_wp2_with fail
    refine (hcheck _ hm).mono ?_
    rintro e w1 ⟨rfl, bel1⟩
    have s1 := hkp _ _ bel1 (by (refine ⟨⟨?_, by first | omega | (simp; done) | (simp; omega)⟩, by first | omega | (simp; done) | (simp; omega), by simp [go_sem], by simp [go_sem], by simp [go_sem], by simp [go_sem], by simp [go_sem], by simp [go_sem], by simp [go_sem]⟩; repeat' (first | exact Below.refl _ _ | assumption | apply Below.drew | refine Below.setCell ?_ (by first | omega | (simp; done) | (simp; omega)) _ | refine Below.alloc ?_ (by first | omega | (simp; done) | (simp; omega)) _)))
    dsimp only at s1
    have hz := s1.2.1
    have hf := frozen_below bel1 (b := w.heap.size + 1) (by simp) (fun j => by simp [go_sem])
    go_wp2
    refine bodyPost_ret (v := .tuple #[.agg #[_, _, _, _], _]) (by simp [results, Try.results26, go_sem, s1]) rfl ⟨rfl, ?_⟩
    have bel0 := s1.1.1
    repeat' (first | exact Below.refl _ _ | assumption | apply Below.drew | refine Below.setCell ?_ (by first | omega | (simp; done) | (simp; omega)) _ | refine Below.alloc ?_ (by first | omega | (simp; done) | (simp; omega)) _)

def twof : Nat → Nat → Int
  | 0, 0 => 255
  | 0, 3 => 255
  | 1, 2 => 255
  | 1, 3 => 255
  | _, _ => 0
set_option maxHeartbeats 600000 in
theorem two_any (w : World) : Calls Try.prog 22 #[] w fun e w' => (∃ b, e = .returned (.agg #[.int .i64 2, .int .i64 1, .slice (some ⟨b, 0, none⟩) 2 2]) ∧ Px w' (some ⟨b, 0, none⟩) 2 twof) ∧ Below w.heap.size w w' := by
  go_enter Try.func22, Try.ntmps22
  go_wp2
  refine bodyPost_ret (v := .agg #[.int .i64 2, .int .i64 1, .slice (some ⟨w.heap.size + 1, 0, none⟩) 2 2]) (by simp [results, Try.results22, go_sem]) rfl ⟨⟨w.heap.size + 1, rfl, ?_⟩, ?_⟩
  · intro _
    refine ⟨w.heap.size + 1, 0, rfl, by simp, ?_⟩
    intro i hi j hj
    obtain rfl | rfl : i = 0 ∨ i = 1 := by omega
    all_goals
      obtain rfl | rfl | rfl | rfl : j = 0 ∨ j = 1 ∨ j = 2 ∨ j = 3 := by omega
      all_goals simp [go_sem, twof]
  · repeat' (first | exact Below.refl _ _ | assumption | apply Below.drew | refine Below.setCell ?_ (by first | omega | (simp; done) | (simp; omega)) _ | refine Below.alloc ?_ (by first | omega | (simp; done) | (simp; omega)) _)

theorem may_two : May 2 1 2 := by unfold May; omega
theorem at_two_blue (b : Nat) (w : World) (hp : Px w (some ⟨b, 0, none⟩) 2 twof) : Calls Try.prog 21 #[.agg #[.int .i64 2, .int .i64 1, .slice (some ⟨b, 0, none⟩) 2 2], .int .i64 128, .int .i64 255] w fun e w' =>
    e = .returned (.tuple #[.agg #[.int .u8 0, .int .u8 0, .int .u8 255, .int .u8 255], .int .i64 0]) ∧ Below w.heap.size w w' :=
  at_ok 2 1 128 255 (some ⟨b, 0, none⟩) 2 2 twof w may_two hp (by omega) (by omega) (by omega) (by omega)

set_option maxHeartbeats 600000 in
theorem alive09_any (w : World) : Calls Try.prog 19 #[] w fun e w' => e = .returned (.bool true) ∧ Below w.heap.size w w' := by
  have hq := eql_col
  go_enter Try.func19, Try.ntmps19
  go_wp2_with fail
  refine (two_any _).mono ?_
  rintro e w1 ⟨⟨b, rfl, hp⟩, bel1⟩
  have Hp := Lib.hid hp
  clear hp
  go_wp2_with fail
  refine (at_two_blue _ _ Hp.out).mono ?_
  rintro e w2 ⟨rfl, bel2⟩
  go_wp2
  go_ret
  refine ⟨rfl, ?_⟩
  have bel0 := bel1.trans (bel2.mono bel1.size)
  have := bel1.size
  have := bel2.size
  repeat' (first | exact Below.refl _ _ | assumption | apply Below.drew | refine Below.setCell ?_ (by first | omega | (simp; done) | (simp; omega)) _ | refine Below.alloc ?_ (by first | omega | (simp; done) | (simp; omega)) _)
end Go.Proofs.Ytgcappooiecaiaa
