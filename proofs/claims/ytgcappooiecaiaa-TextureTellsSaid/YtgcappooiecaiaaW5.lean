/- The walks of texture.side, texture.Check, texture.At. -/
import Derived.Test.YtgcappooiecaiaaW2
namespace Go.Proofs.Ytgcappooiecaiaa
open Go.RowKit
set_option linter.unusedVariables false

theorem area_bd {W H : Int} {n : Nat} (h0 : 1 ≤ W) (h1 : W ≤ 16) (h2 : 1 ≤ H) (h3 : H ≤ 16) (hn : W * H = ↑n) : 1 ≤ (n : Int) ∧ (n : Int) ≤ 256 := by
  have k1 : W * H ≤ 16 * H := Int.mul_le_mul_of_nonneg_right h1 (by omega)
  have k2 : 1 * H ≤ W * H := Int.mul_le_mul_of_nonneg_right h0 (by omega)
  omega
/-- May a texture be? -/
def May (W H : Int) (n : Nat) : Prop := (1 ≤ W ∧ W ≤ 16) ∧ (1 ≤ H ∧ H ≤ 16) ∧ W * H = ↑n

set_option maxHeartbeats 400000 in
theorem side_yes (n : Int) (w : World) (h0 : 0 < n) (h1 : n ≤ 16) : Calls Try.prog 38 #[.int .i64 n] w fun e w' => e = .returned (.bool true) ∧ w = w' := by
  go_enter Try.func38, Try.ntmps38
  go_wp2
  go_ret
  exact ⟨rfl, rfl⟩
set_option maxHeartbeats 400000 in
theorem side_no (n : Int) (w : World) (h : n ≤ 0 ∨ 16 < n) : Calls Try.prog 38 #[.int .i64 n] w fun e w' => e = .returned (.bool false) ∧ w = w' := by
  rcases h with h | h
  · go_enter Try.func38, Try.ntmps38
    go_wp2
    go_ret
    exact ⟨rfl, rfl⟩
  · have hd : decide (n ≤ 16) = false := decide_eq_false (by omega)
    have hd2 : decide (0 < n) = true := decide_eq_true (by omega)
    go_enter Try.func38, Try.ntmps38
    go_wp2
    go_ret
    exact ⟨rfl, rfl⟩
set_option maxHeartbeats 400000 in
theorem check_ok (W H : Int) (A : Option Addr) (n c : Nat) (w : World) (h : May W H n) :
    Calls Try.prog 20 #[.agg #[.int .i64 W, .int .i64 H, .slice A n c]] w fun e w' => e = .returned (.int .i64 0) ∧ Below w.heap.size w w' := by
  obtain ⟨⟨h0, h1⟩, ⟨h2, h3⟩, hn⟩ := h
  obtain ⟨hn0, hn1⟩ := area_bd h0 h1 h2 h3 hn
  go_enter Try.func20, Try.ntmps20
  go_wp2_with (first | (go_at_call 38; refine (side_yes _ _ (by omega) (by omega)).mono ?_; rintro e w' ⟨rfl, rfl⟩))
  go_ret
  exact ⟨rfl, by repeat' (first | exact Below.refl _ _ | assumption | apply Below.drew | refine Below.setCell ?_ (by first | omega | (simp; done) | (simp; omega)) _ | refine Below.alloc ?_ (by first | omega | (simp; done) | (simp; omega)) _)⟩
set_option maxHeartbeats 400000 in
theorem check_bad (W H : Int) (A : Option Addr) (n c : Nat) (w : World) (h : ¬ May W H n) :
    Calls Try.prog 20 #[.agg #[.int .i64 W, .int .i64 H, .slice A n c]] w fun e w' => e = .returned (.int .i64 8) ∧ Below w.heap.size w w' := by
  have h : (W ≤ 0 ∨ 16 < W) ∨ (1 ≤ W ∧ W ≤ 16) ∧ (H ≤ 0 ∨ 16 < H) ∨ (1 ≤ W ∧ W ≤ 16) ∧ (1 ≤ H ∧ H ≤ 16) ∧ W * H ≠ ↑n := by
    unfold May at h
    by_cases a : 1 ≤ W ∧ W ≤ 16
    · by_cases b : 1 ≤ H ∧ H ≤ 16
      · exact .inr (.inr ⟨a, b, fun e => h ⟨a, b, e⟩⟩)
      · exact .inr (.inl ⟨a, by omega⟩)
    · exact .inl (by omega)
  rcases h with h | ⟨⟨h0, h1⟩, h⟩ | ⟨⟨h0, h1⟩, ⟨h2, h3⟩, h⟩
  · go_enter Try.func20, Try.ntmps20
    go_wp2_with (first | (go_at_call 38; refine (side_no _ _ (by omega)).mono ?_; rintro e w' ⟨rfl, rfl⟩))
    go_ret
    exact ⟨rfl, by repeat' (first | exact Below.refl _ _ | assumption | apply Below.drew | refine Below.setCell ?_ (by first | omega | (simp; done) | (simp; omega)) _ | refine Below.alloc ?_ (by first | omega | (simp; done) | (simp; omega)) _)⟩
  · go_enter Try.func20, Try.ntmps20
    go_wp2_with fail
    refine (side_yes W _ (by omega) (by omega)).mono ?_
    rintro e w' ⟨rfl, rfl⟩
    go_wp2_with fail
    refine (side_no H _ (by omega)).mono ?_
    rintro e w' ⟨rfl, rfl⟩
    go_wp2
    go_ret
    exact ⟨rfl, by repeat' (first | exact Below.refl _ _ | assumption | apply Below.drew | refine Below.setCell ?_ (by first | omega | (simp; done) | (simp; omega)) _ | refine Below.alloc ?_ (by first | omega | (simp; done) | (simp; omega)) _)⟩
  · obtain ⟨m, hm⟩ : ∃ m, W * H = m := ⟨_, rfl⟩
    rw [hm] at h
    have hb : 1 ≤ m ∧ m ≤ 256 := by
      have k1 : W * H ≤ 16 * H := Int.mul_le_mul_of_nonneg_right h1 (by omega)
      have k2 : 1 * H ≤ W * H := Int.mul_le_mul_of_nonneg_right h0 (by omega)
      omega
    obtain ⟨hb0, hb1⟩ := hb
    have hne2 : ((n : Int) != m) = true := by simp; omega
    clear h
    go_enter Try.func20, Try.ntmps20
    go_wp2_with (first | (go_at_call 38; refine (side_yes _ _ (by omega) (by omega)).mono ?_; rintro e w' ⟨rfl, rfl⟩))
    go_ret
    exact ⟨rfl, by repeat' (first | exact Below.refl _ _ | assumption | apply Below.drew | refine Below.setCell ?_ (by first | omega | (simp; done) | (simp; omega)) _ | refine Below.alloc ?_ (by first | omega | (simp; done) | (simp; omega)) _)⟩

/-- The number of the texel at a place. -/
def tix (W H u v : Int) : Int := v * H / 256 * W + u * W / 256
theorem tix_bd {W H u v : Int} {n : Nat} (h0 : 1 ≤ W) (h1 : W ≤ 16) (h2 : 1 ≤ H) (h3 : H ≤ 16) (hn : W * H = ↑n) (hu0 : 0 ≤ u) (hu1 : u ≤ 255) (hv0 : 0 ≤ v) (hv1 : v ≤ 255) :
    (0 ≤ v * H ∧ v * H ≤ 4080) ∧ (0 ≤ u * W ∧ u * W ≤ 4080) ∧ (0 ≤ v * H / 256 * W ∧ v * H / 256 * W ≤ 240) ∧ 0 ≤ tix W H u v ∧ tix W H u v < n := by
  have a1 : v * H ≤ 255 * H := Int.mul_le_mul_of_nonneg_right hv1 (by omega)
  have a2 : 0 ≤ v * H := Int.mul_nonneg hv0 (by omega)
  have b1 : u * W ≤ 255 * W := Int.mul_le_mul_of_nonneg_right hu1 (by omega)
  have b2 : 0 ≤ u * W := Int.mul_nonneg hu0 (by omega)
  have c1 : v * H / 256 ≤ H - 1 := by omega
  have c2 : 0 ≤ v * H / 256 := by omega
  have d1 : v * H / 256 * W ≤ (H - 1) * W := Int.mul_le_mul_of_nonneg_right c1 (by omega)
  have d2 : 0 ≤ v * H / 256 * W := Int.mul_nonneg c2 (by omega)
  have d3 : (H - 1) * W ≤ 15 * W := Int.mul_le_mul_of_nonneg_right (by omega) (by omega)
  have e : (H - 1) * W + W = n := by rw [Int.sub_mul, ← hn, Int.mul_comm W H]; omega
  unfold tix
  omega

/-- The pixels of a slice: byte j of the i-th. -/
def Px (w : World) (A : Option Addr) (n : Nat) (f : Nat → Nat → Int) : Prop :=
  0 < n → ∃ b off, A = some ⟨b, off, none⟩ ∧ b < w.heap.size ∧ ∀ i, i < n → ∀ j, j < 4 → w.cell? ⟨b, off + i * 4 + j, none⟩ = some (.int .u8 (f i j))
theorem Px.below {w w' : World} {A : Option Addr} {n : Nat} {f : Nat → Nat → Int} (h : Px w A n f) (hb : Below w.heap.size w w') : Px w' A n f := fun hn => by
  obtain ⟨b, off, e, hl, hc⟩ := h hn
  exact ⟨b, off, e, Nat.lt_of_lt_of_le hl hb.size, fun i hi j hj => (hb.cell (p := ⟨b, off + i * 4 + j, none⟩) hl).trans (hc i hi j hj)⟩

set_option maxHeartbeats 600000 in
theorem at_ok (W H u v : Int) (A : Option Addr) (n c : Nat) (f : Nat → Nat → Int) (w : World) (hm : May W H n) (hp : Px w A n f)
   (hu0 : 0 ≤ u) (hu1 : u ≤ 255) (hv0 : 0 ≤ v) (hv1 : v ≤ 255) :
    Calls Try.prog 21 #[.agg #[.int .i64 W, .int .i64 H, .slice A n c], .int .i64 u, .int .i64 v] w fun e w' => e = .returned (.tuple #[.agg #[.int .u8 (f (tix W H u v).toNat 0), .int .u8 (f (tix W H u v).toNat 1), .int .u8 (f (tix W H u v).toNat 2), .int .u8 (f (tix W H u v).toNat 3)], .int .i64 0]) ∧ Below w.heap.size w w' := by
  have hcheck := check_ok W H A n c
  obtain ⟨⟨h0, h1⟩, ⟨h2, h3⟩, hn⟩ := id hm
  obtain ⟨hn0, hn1⟩ := area_bd h0 h1 h2 h3 hn
  obtain ⟨⟨p0, p1⟩, ⟨q0, q1⟩, ⟨r0, r1⟩, t0, t1⟩ := tix_bd (n := n) h0 h1 h2 h3 hn hu0 hu1 hv0 hv1
  obtain ⟨b, off, rfl, hbl, hc⟩ := hp (by omega)
  obtain ⟨k, hk⟩ := Int.eq_ofNat_of_zero_le t0
  rw [hk] at t1
  rw [hk, Int.toNat_natCast]
  obtain ⟨mn, hmn⟩ : ∃ m, (if v < u then v else u) = m := ⟨_, rfl⟩
  obtain ⟨mx, hmx⟩ : ∃ m, (if u < v then v else u) = m := ⟨_, rfl⟩
  have g1 : decide (mn < 0) = false := decide_eq_false (by rw [← hmn]; split <;> omega)
  have g2 : decide (255 < mx) = false := decide_eq_false (by rw [← hmx]; split <;> omega)
  unfold tix at hk
  generalize hp1 : v * H = p at *
  generalize hq1 : u * W = q at *
  generalize hr : p / 256 * W = r at *
  have c0 := hc k (by omega) 0 (by omega)
  have c1 := hc k (by omega) 1 (by omega)
  have c2 := hc k (by omega) 2 (by omega)
  have c3 := hc k (by omega) 3 (by omega)
  simp only [Nat.add_zero] at c0
  have i0 : (0 : Int) ≤ (k : Int) := by omega
  have hkp : Keeps (fun Wo => (Below w.heap.size w Wo ∧ w.heap.size ≤ Wo.heap.size) ∧ w.heap.size + 2 ≤ Wo.heap.size ∧ Wo.cell? ⟨w.heap.size, 0, none⟩ = some (.int .i64 W) ∧ Wo.cell? ⟨w.heap.size, 1, none⟩ = some (.int .i64 H) ∧ Wo.cell? ⟨w.heap.size, 2, none⟩ = some (.slice (some ⟨b, off, none⟩) n c) ∧ Wo.cell? ⟨w.heap.size + 1, 0, none⟩ = some (.int .u8 0) ∧ Wo.cell? ⟨w.heap.size + 1, 1, none⟩ = some (.int .u8 0) ∧ Wo.cell? ⟨w.heap.size + 1, 2, none⟩ = some (.int .u8 0) ∧ Wo.cell? ⟨w.heap.size + 1, 3, none⟩ = some (.int .u8 0) ∧ Wo.cell? ⟨b, off + k * 4, none⟩ = some (.int .u8 (f k 0)) ∧ Wo.cell? ⟨b, off + k * 4 + 1, none⟩ = some (.int .u8 (f k 1)) ∧ Wo.cell? ⟨b, off + k * 4 + 2, none⟩ = some (.int .u8 (f k 2)) ∧ Wo.cell? ⟨b, off + k * 4 + 3, none⟩ = some (.int .u8 (f k 3))) := by
    repeat' (first | exact Keeps.below _ | exact Keeps.size _ | exact Keeps.cell _ _ | apply Keeps.and)
  have hqe := eql_col
  clear hc hp hm
  have Hn := Lib.hid hn; clear hn
  go_enter Try.func21, Try.ntmps21
  go_wp2_with fail
  refine (hcheck _ ⟨⟨h0, h1⟩, ⟨h2, h3⟩, Hn.out⟩).mono ?_
  rintro e w1 ⟨rfl, bel1⟩
  have s1 := hkp _ _ bel1 (by (refine ⟨⟨?_, by first | omega | (simp; done) | (simp; omega)⟩, by first | omega | (simp; done) | (simp; omega), by simp [go_sem], by simp [go_sem], by simp [go_sem], by simp [go_sem], by simp [go_sem], by simp [go_sem], by simp [go_sem], by simp [go_sem, hbl, *], by simp [go_sem, *], by simp [go_sem, *], by simp [go_sem, *]⟩; repeat' (first | exact Below.refl _ _ | assumption | apply Below.drew | refine Below.setCell ?_ (by first | omega | (simp; done) | (simp; omega)) _ | refine Below.alloc ?_ (by first | omega | (simp; done) | (simp; omega)) _)))
  dsimp only at s1
  have hz := s1.2.1
  have hf := frozen_below bel1 (b := w.heap.size + 1) (by simp) (fun j => by simp [go_sem])
  go_wp2
  all_goals
    refine bodyPost_ret (v := .tuple #[.agg #[_, _, _, _], _]) (by simp [results, Try.results21, go_sem, s1]) rfl ⟨rfl, ?_⟩
    have bel0 := s1.1.1
    repeat' (first | exact Below.refl _ _ | assumption | apply Below.drew | refine Below.setCell ?_ (by first | omega | (simp; done) | (simp; omega)) _ | refine Below.alloc ?_ (by first | omega | (simp; done) | (simp; omega)) _)
end Go.Proofs.Ytgcappooiecaiaa
